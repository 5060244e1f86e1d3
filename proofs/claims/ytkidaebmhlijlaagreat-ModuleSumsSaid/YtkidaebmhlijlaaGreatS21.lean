/- Joined. -/
import Derived.Test.YtkidaebmhlijlaaGreatS10
import Derived.Test.YtkidaebmhlijlaaGreatS18
import Derived.Test.YtkidaebmhlijlaaGreatS19
set_option linter.unusedVariables false
set_option linter.unusedSimpArgs false
set_option linter.unusedSectionVars false
set_option maxHeartbeats 16000000
set_option maxRecDepth 100000
variable{L L':(Nat->Int)->Prop}{cs:Array Go.Value}{M:List (List Int)}{bs os xs:List Nat}{B C M0 R a b base g i k lo m m' n r:Nat}{c:Nat->Nat}{A F G G' H U V:Nat->Nat->Int}{P:Prop}{T:Go.TypeId}{d v:Go.Value}{w w':Go.World}
namespace Go.Proofs.YtkidaebmhlijlaaGreat
open Go.RowKit
def StH(lo R C:Nat)(F:Nat->Nat->Int):World->Value->Prop:=fun w v=>∃bs,Wri w v R C bs F/\∀b,Zn v bs b->lo<=b
def StM(lo R C:Nat)(F:Nat->Nat->Int):World->Value->Prop:=fun w v=>∃o c,v= .agg #[.int .i64 R,.int .i64 C,.slice o R c]/\StH lo R C F w (.slice o R c)
def zXo(R:Nat):World->Value->Prop:=fun w v=>zE2 w v R
def StB(lo R C:Nat)(F:Nat->Nat->Int):World->Value->Prop:=fun w v=>∃Ah Au Av,v= .agg #[Ah,Au,Av]/\StH lo R C F w Ah/\zE2 w Au R/\zE2 w Av R
def StP(lo R C:Nat)(F:Nat->Nat->Int):World->Value->Prop:=fun w v=>∃g Ah Au Av,v= .pointer (some ⟨g,0,none⟩)/\lo<=g/\Blk w g tHW #[Ah,Au,Av]/\StH lo R C F w Ah/\zE2 w Au R/\zE2 w Av R
theorem StH.below(h:StH lo R C F w v)(hb:Below w.heap.size w w'):StH lo R C F w' v:=by
 obtain⟨bs,h1,h2⟩:=h;exact⟨bs,h1.below hb,h2⟩
theorem zPO(lo R C:Nat)(F:Nat->Nat->Int):zAQ (StM lo R C F):=fun _ _ _ x ⟨o,c,h1,h2⟩=>⟨o,c,h1,h2.below x⟩
theorem zPN(lo R C:Nat)(F:Nat->Nat->Int):zAQ (StH lo R C F):=fun _ _ _ x h=>h.below x
theorem zPK(R:Nat):zAQ (zXo R):=fun _ _ _ x h=>zE2.below h x
theorem zPM(lo R C:Nat)(F:Nat->Nat->Int):zAQ (StB lo R C F):=fun _ _ _ x ⟨a,b,c,h1,h2,h3,h4⟩=>⟨a,b,c,h1,h2.below x,h3.below x,h4.below x⟩
theorem zJs(lo R C:Nat)(F:Nat->Nat->Int):zAQ (StP lo R C F):=fun _ _ _ x ⟨g,a,b,c,h1,h0,h5,h2,h3,h4⟩=>⟨g,a,b,c,h1,h0,h5.below x,h2.below x,h3.below x,h4.below x⟩
theorem zKw(w:World)(n:Nat)(hn:n<=1000000):zE2 (w.alloc (.cells (madeCells (Value.slice none 0 0).cells (n*1)) tR)) (.slice (some ⟨w.heap.size,0,none⟩) n n) n:=by
 refine⟨_,_,_,rfl,xgf _,by omega,qQ _ _ _,fun i hi=>?_⟩;unfold madeCells;rw[Array.getElem?_eq_getElem (by simp;omega)];simp[Value.cells,Nat.mod_one]
theorem zLz(w:World)(n:Nat)(hn:n<=1000000):zE2 (w.alloc (.cells (madeCells #[Value.slice none 0 0] n) tR)) (.slice (some ⟨w.heap.size,0,none⟩) n n) n:=by
 have h:=zKw w n hn;rw[zAn]at h;exact h
theorem zVk(hB:BSm B)(v kv:Value)(M:List (List Int))(R C lo:Nat)(w:World)(h:zH2 w v R C M)(hF:zBc R C M)(hk:jT w kv 1)(hR:R<=1000000)(hC:C<=1000000)(hok:okF B R C (ent M))(s1:Sm 1)(hlo:lo<=w.heap.size):
  Calls Tryz.prog 114 #[v,kv] w fun e w'=>∃v,e= .returned v/\StM lo R C (ent M) w' v/\Below w.heap.size w w':=by
 refine(zJz v kv M R C 1 w h hF hk hR hC ?_ s1).mono fun e w' hr=>?_
 ·intro r hr z hz
  obtain⟨i,hi,ei⟩:=qS hr;obtain⟨j,hj,ej⟩:=qS hz;have e1:M[i]?=some r:=by rw[xga hi,ei]
  have e2:r[j]?=some z:=by rw[xga hj,ej]
  have e3:=hF.2 r hr;have:=hok i (by rw[<-hF.1];exact hi) j oM;rw[zGG e1 e2]at this;exact hB.sm _ this
 have hq:genM R C (fun i j=>1*ent M i j)=genM R C (ent M):=zAM fun i _ j _=>zAD _
 rw[hq]at hr;obtain⟨v,rfl,⟨o,c,bs,h1,h2,h3⟩,hb⟩:=zEo.within hr;exact⟨v,rfl,⟨o,c,h1,bs,h2,fun b hb=>zB hlo (h3 b hb).1⟩,hb⟩
theorem zMF(hB:BSm B)(v:Value)(M:List (List Int))(R C:Nat)(w:World)(h:zH2 w v R C M)(hF:zBc R C M)(hR:R<=1000000)(hC:C<=1000000)(hok:okF B R C (ent M))(s1:Sm 1):
  Calls Tryz.prog 99 #[v] w fun e w'=>∃v,e= .returned v/\StP w.heap.size R C (ent M) w' v/\Below w.heap.size w w':=by
 have h0:=h;obtain⟨A,rfl,h⟩:=h;obtain⟨ao,n,cap,rfl,e2,e3,e4,-⟩:=id h;obtain rfl:R=n:=by rw[<-e2,hF.1]
 have HF:=xgv hF;have HOK:=xgv hok;have H0:=xgv h0;have S1:=xgv s1;clear hok h0 hF e2 s1;go_enter Tryz.func99,Tryz.ntmps99;go_upto_region 1 with(fail)
 refine zD ?_;intro W0 hW0;obtain⟨hB0,bx1,hs0⟩:=qM hW0;obtain⟨c1,c2,c3,c4,c5,c6⟩:=bx1.three;have hl1:=zPO W0.heap.size R C (ent M);have hl2:=zPN W0.heap.size R C (ent M);have hl3:=zPK R;have hl4:=zPM W0.heap.size R C (ent M);have hl5:=zJs W0.heap.size R C (ent M);have hmk:=fun W=>mkR (R:Int) R rfl oM W
 clear hW0;refine yX 12 [pcI 1 (1),pcD 2 [1] (StM W0.heap.size R C (ent M)),pcD 3 [2] (StH W0.heap.size R C (ent M)),pcD 6 [] (zXo R),pcD 9 [] (zXo R),pcD 10 [3,6,9] (StB W0.heap.size R C (ent M)),pcD 11 [10] (StP W0.heap.size R C (ent M))] ?_;refine sRd ?_;refine sRc (fun wS hI Gk hG=>by go_simp;exact ck hG (zGK 1 _ oM oM)) (fun va1 _=>?_);refine sRc (fun wS hI ha1 Gk hG=>by go_simp;exact ck hG (zVk hB _ _ M R C W0.heap.size _ ((H0.out.below hB0).below hI.bel) HF.out ha1 hR hC HOK.out S1.out hI.bel.size)) (fun va2 _=>?_);refine sRc (fun wS hI ha2 Gk hG=>?_) (fun va3 _=>?_)
 ·obtain⟨o,c,rfl,h2'⟩:StM W0.heap.size R C (ent M) wS va2:=ha2
  go_simp;exact⟨hG _ _ h2',zA _ _⟩
 refine sRd ?_;refine sRc (fun wS hI Gk hG=>?_) (fun va6 _=>?_)
 ·go_simp
  exact⟨hG _ _ (by first|exact zKw wS R hR|exact zLz wS R hR),(zA _ _).alloc (xgf _) _⟩
 refine sRd ?_;refine sRc (fun wS hI Gk hG=>?_) (fun va9 _=>?_)
 ·go_simp
  exact⟨hG _ _ (by first|exact zKw wS R hR|exact zLz wS R hR),(zA _ _).alloc (xgf _) _⟩
 refine sRc (fun wS hI ha3 ha6 ha9 Gk hG=>?_) (fun va10 _=>?_)
 ·have h3q:StH W0.heap.size R C (ent M) wS va3:=ha3
  have h6q:zE2 wS va6 R:=ha6;have h9q:zE2 wS va9 R:=ha9;obtain⟨bs3,h3w,h3z⟩:=id h3q;obtain⟨o3,c3,rfl⟩:=h3w.shape;obtain⟨g6,c6,_,rfl,-⟩:=id h6q;obtain⟨g9,c9,_,rfl,-⟩:=id h9q;go_simp;exact⟨hG _ _ ⟨_,_,_,rfl,h3q,h6q,h9q⟩,zA _ _⟩
 refine sRc (fun wS hI ha10 Gk hG=>?_) (fun va11 _=>?_)
 ·obtain⟨Ah,Au,Av,rfl,h3q,h6q,h9q⟩:StB W0.heap.size R C (ent M) wS va10:=ha10
  have hba:=(zA wS.heap.size wS).alloc (xgf _) (.cells #[Ah,Au,Av] tHW);obtain⟨bs3,h3w,h3z⟩:=id h3q;obtain⟨o3,c3,rfl⟩:=h3w.shape;obtain⟨g6,c6,_,rfl,-⟩:=id h6q;obtain⟨g9,c9,_,rfl,-⟩:=id h9q;go_simp;exact hG _ _ ⟨_,_,_,_,rfl,hI.bel.size,qQ _ _ _,h3q.below hba,h6q.below hba,h9q.below hba⟩
 refine sRe ?_;intro w2 hbw2 ha1 ha2 ha3 ha6 ha9 ha10 ha11;obtain⟨g,Ah,Au,Av,rfl,g1,g2,g3,g4,g5⟩:StP W0.heap.size R C (ent M) w2 va11:=ha11;obtain⟨bs,k1,k2⟩:=g3;have hsw:=hB0.size;clear c1 c2 c3 c4 c5 c6 hmk ha10 ha9 ha6 ha3 ha2;go_wp2;go_ret;exact⟨_,rfl,⟨g,Ah,Au,Av,rfl,by omega,g2,⟨bs,k1,fun b hb=>by have:=k2 b hb;omega⟩,g4,g5⟩,nx hB0 hbw2⟩
structure zDv(w:World)(base:Nat)(A:Value)(C:Nat)(bs:List Nat)(M:List (List Int)):Prop where
 own:w.ownsRow base tR 1 A bs.length (zBJ C bs)
 len:M.length=bs.length
 row:∀(k:Nat) (b:Nat) (r:List Int),bs[k]?=some b->M[k]?=some r->r.length=C/\jQ w b r
 nodup:bs.Nodup
 cb:C<=1099511627776
theorem zDv.rows0{A:Value}(h:zDv w base A C bs M):qA w 0 A C bs M:=by
 refine⟨⟨h.own.1,?_⟩,h.len,fun k b r h1 h2=>⟨zE _,h.row k b r h1 h2⟩,h.nodup,h.cb⟩;rcases h.own.2 with h3|⟨g,cap,cur,rfl,k1,k2⟩
 exact .inl h3;exact .inr ⟨g,cap,cur,rfl,zE _,k2⟩
theorem zDv.below{A:Value}(h:zDv w base A C bs M)(hb:Below w.heap.size w w'):zDv w' base A C bs M:=
 ⟨h.own.kept (row:=none) ⟨hb.os,hb.tape,hb.output,hb.size,fun k hk _=>hb.block k hk⟩ (by cases hv:A.ownBlock<;>simp),h.len,fun k b r h1 h2=>by
  obtain⟨e2,e3⟩:=h.row k b r h1 h2;exact⟨e2,e3.below hb⟩,h.nodup,h.cb⟩
theorem zDv.nil(w:World)(base C:Nat)(hC:C<=1099511627776):zDv w base (.slice none 0 0) C [] []:=⟨⟨rfl,.inl ⟨rfl,rfl⟩⟩,rfl,fun k b r h1=>by simp at h1,by simp,hC⟩
theorem zDv.ownb{A:Value}(h:zDv w base A C bs M):∀g,A.ownBlock=some g->base<=g/\g<w.heap.size:=zDA h.own
theorem zDv.mono{A:Value}(h:zDv w base A C bs M)(ha:a<=base):zDv w a A C bs M:=by
 refine⟨⟨h.own.1,?_⟩,h.len,h.row,h.nodup,h.cb⟩;rcases h.own.2 with h3|⟨g,cap,cur,rfl,k1,k2⟩
 exact .inl h3;exact .inr ⟨g,cap,cur,rfl,by omega,k2⟩
theorem zDv.off{A:Value}(h:zDv w base A C bs M)(hg:Blk w g T cs)(hT:¬ T=tI)(hgb:g<base)(ho:∀k,k≠g->w'.heap[k]?=w.heap[k]?)(hx:zBq w w'):zDv w' base A C bs M:=by
 refine⟨⟨h.own.1,?_⟩,h.len,fun k b r h1 h2=>?_,h.nodup,h.cb⟩
 ·rcases h.own.2 with h3|⟨g',cap,cur,rfl,k1,k2,k3⟩
  ·exact .inl h3
  exact .inr ⟨g',cap,cur,rfl,k1,(ho g' oM).trans k2,k3⟩
 obtain⟨e2,e3⟩:=h.row k b r h1 h2;exact⟨e2,e3.old (ho b (fun e=>zLV hg e3 hT e.symm)) hx⟩
theorem zDv.shape{A:Value}(h:zDv w base A C bs M):∃o n c,A= .slice o n c:=by
 rcases h.own.2 with⟨rfl,-⟩|⟨g,cap,cur,rfl,-⟩
 exact⟨_,_,_,rfl⟩;exact⟨_,_,_,rfl⟩
theorem zYT{w:World}{ops:Array Oper}{rest:List Oper}{o:Oper}{a:Act}{Q:Exit->Act->World->Prop}(hgd:o.guard=none)(s x:Operand)
  (ho:o.op= .call {callee:=.builtin .append,args:=#[s,x],argTypes:=#[30,30]})
  (base:Nat) (v:Value) (C:Nat) (bs:List Nat) (M:List (List Int)) (hs:a.eval s=v) (hown:zDv w base v C bs M) (b c nb:Nat) (r:List Int) (hx:a.eval x= .slice (some ⟨b,0,none⟩) 1 c)
  (hb:Blk w b tR #[.slice (some ⟨nb,0,none⟩) C C]) (hr:jQ w nb r) (hrl:r.length=C) (hfr:∀g∈bs,g≠nb)
  (hlen:bs.length+1<=1099511627776) (hbase:base<=w.heap.size)
  (h:∀v' w',zDv w' base v' C (bs++ [nb]) (M++ [r])->w.grownBy w' v.ownBlock->zBq w w'->wpList Tryz.prog ops Q rest (a.put o.dst v') w'):wpList Tryz.prog ops Q (o::rest) a w:=by
 obtain⟨i0,hi,hz0,hz1,hz2⟩:=info_parts zDU;have c0:=hb.cell 0;refine wpList_append_own w hgd s x 30 ho base tR i0 _ 1 24 zAs hi hz0 hz1 hz2 rfl oM v bs.length _ hs hown.own ⟨b,0,none⟩ 1 c [.slice (some ⟨nb,0,none⟩) C C] hx rfl ?_ ?_ (by simp[maxLen];omega) oM hbase ?_
 ·intro j u hj
  rw[zAJ];match j with
  |0=>simp at hj;subst hj;exact c0
  |j+1=>simp at hj
 ·intro u hu
  simp at hu;subst hu;rfl
 intro v' w' k1 k2 _;have hx:=zEF hown.own dE k2;have hkeep:∀g q,jQ w g q->jQ w' g q:=fun g q hq=>hq.old (k2.block g hq.lt (zGN hown.own hq)) hx
 refine h v' w' ⟨?_,by simp[hown.len],?_,?_,hown.cb⟩ k2 hx
 ·have:zBJ C (bs++ [nb])=zBJ C bs++ [.slice (some ⟨nb,0,none⟩) C C]:=by simp[zBJ]
  rw[this];simpa using k1
 ·intro k g q hg hq
  rcases zG k bs.length with hlt|hge
  ·rw[List.getElem?_append_left hlt]at hg
   rw[List.getElem?_append_left (by rw[hown.len];exact hlt)]at hq;obtain⟨f2,f3⟩:=hown.row k g q hg hq;exact⟨f2,hkeep _ _ f3⟩
  rw[List.getElem?_append_right hge]at hg;rw[List.getElem?_append_right (by rw[hown.len];exact hge),hown.len]at hq;have hk0:k-bs.length=0:=by
   have:=(xge.1 hg).1;simp at this;omega
  rw[hk0]at hg hq;simp at hg hq;subst hg;subst hq;exact⟨hrl,hkeep _ _ hr⟩
 rw[yF];refine⟨hown.nodup,by simp,fun x hx y hy=>?_⟩;simp at hy;subst hy;exact hfr x hx
theorem zFT.cell(h:zFT w base v xs){x:Nat}(hk:xs[k]?=some x):∃g cap,v= .slice (some ⟨g,0,none⟩) xs.length cap/\g<w.heap.size/\w.cell? ⟨g,k,none⟩=some (.int .i64 x):=by
 rcases h.2.2 with⟨rfl,h0⟩|⟨g,cap,cur,rfl,hg,hh,hn,hc,hs,ht⟩
 ·rw[qB h0]at hk
  simp at hk
 refine⟨g,cap,rfl,(Array.getElem?_eq_some_iff.1 hh).1,?_⟩;rw[cell_of_row w g k cur tNn _ hh];have hk':(xs.map fun n=>Value.int .i64 (n:Nat))[k]?=some (.int .i64 (x:Nat)):=by simp[hk]
 rw[<-ht,List.getElem?_take]at hk';split at hk';simpa using hk';cases hk'
abbrev SlR(b C:Nat):World->Value->Prop:=fun w v=>∃g,v= .slice (some ⟨g,0,none⟩) 1 1/\Blk w g tR #[.slice (some ⟨b,0,none⟩) C C]
theorem zJr(b C:Nat):zAQ (SlR b C):=fun _ _ _ x ⟨g,h1,h2⟩=>⟨g,h1,h2.below x⟩
theorem zNV(Ah ov:Value)(n Cs nb ob base:Nat)(bss os:List Nat)(F:Nat->Nat->Int)(w:World)(hw:Wri w Ah n Cs bss F)(hnb:Blk w nb 3 #[.int .i64 n])(hob:Blk w ob 96 #[ov])(hov:zFT w base ov os)
  (hos:∀x∈os,x<n) (hnd:os.Nodup) (hn:n<=1000000) (hCs:Cs<=1000000) (hlen:os.length<=n):
  Calls Tryz.prog 150 #[Ah,.int .i64 Cs,.pointer (some ⟨nb,0,none⟩),.pointer (some ⟨ob,0,none⟩)] w fun e w'=>∃v bs',e= .returned (.agg #[.int .i64 n,.int .i64 Cs,v])∧
   zDv w' w.heap.size v Cs bs' (os.map fun i=>yL Cs (F i))/\(∀b,b∈bs'->b∈bss)/\Below w.heap.size w w':=by
 have n0:=hnb.cell 0;have o0:=hob.cell 0;obtain⟨so,sn,scap,rfl,s1,-⟩:=id (qA.rows hw);have e2:n=sn:=by rw[<-s1];simp[genM]
 subst e2;obtain⟨ao,ocap,rfl,-,-,-⟩:=hov.at_;have lnb:=hnb.lt;have lob:=hob.lt;have HW:=xgv hw;have HOV:=xgv hov;have HOS:=xgv hos;have HND:=xgv hnd;clear s1 hw hov hos hnd;go_enter Tryz.func150,Tryz.ntmps150;go_upto_region 2 with(fail)
 refine zD ?_;intro W0 hW0;obtain⟨hB0,T6,T7,hs0⟩:=zAd hW0;have o0:=jF o0 hB0;clear hW0 n0;go_wp2;go_loopw [15] (fun iv wr=>∃(k:Nat) (v:Value),iv= .int .i64 k/\k<=os.length/\zDv wr (w.heap.size+2) v Cs ((os.take k).map fun i=>bss.getD i 0) ((os.take k).map fun i=>yL Cs (F i))∧
  Blk wr w.heap.size 32 #[.int .i64 0,.int .i64 0,.slice none 0 0]/\Blk wr (w.heap.size+1) 32 #[.int .i64 n,.int .i64 Cs,v]/\Below w.heap.size w wr) (fun iv _=>os.length-(intOf iv).toNat)
 case atStart=>exact⟨0,_,rfl,by omega,zDv.nil _ _ _ oM,T6,T7,hB0⟩
 clear T6 T7 hB0 hs0;obtain⟨k,uv,rfl,hk,hx,T6,T7,hb⟩:=hrel;obtain⟨vo,vn,vc,rfl⟩:=hx.shape;have l7:=T7.lt;by_cases hlt:k<os.length
 ·obtain⟨i,hi⟩:∃i,os[k]?=some i:=⟨_,xga hlt⟩
  have hin:i<n:=HOS.out i (xgd hi);obtain⟨og,oc,eo,lo,q0⟩:=(HOV.out.below hb).cell hi;injection eo with eo1 eo2 eo3
  subst eo1;obtain⟨g,bi,eg,lg,hbi,-,o1,-⟩:=qA.at_ (HW.out.below hb) (i:=i) (by rw[(HW.out.below hb).len];exact hin);subst eg;have hrow:=(HW.out.below hb).rowAt hin hbi;obtain⟨-,-,f3,-,-,-⟩:=T7.three;have htk:∀{α:Type} (f:Nat->α),(os.take (k+1)).map f=(os.take k).map f++ [f i]:=fun f=>by
   rw[yY,zBY,hi];rfl
  have HTB:=xgv (htk fun i=>bss.getD i 0);have HTM:=xgv (htk fun i=>yL Cs (F i));have hgd:bss.getD i 0=bi:=by rw[xgb,hbi];rfl
  have hne:∀b∈(os.take k).map (fun i=>bss.getD i 0),b≠bi:=by
   intro b hb' hbe;subst hbe;obtain⟨j,hj,he⟩:=List.mem_map.1 hb';have hjn:j<bss.length:=by rw[HW.out.len];exact HOS.out j (List.mem_of_mem_take hj)
   have hil:i<bss.length:=by rw[HW.out.len];exact hin
   have e1:bss.getD j 0=bss[j]:=by rw[xgb,xga hjn];rfl
   have e2:bss[i]=b:=(xge.1 hbi).2;have hji:j=i:=by
    have:=(yT (h₀:=hjn) (h₁:=hil) (qA.nodup HW.out)).1 (by rw[<-e1,e2];exact he);exact this
   subst hji;obtain⟨t,ht1,ht2⟩:=qS hj;rw[zCo]at ht2;have ht3:t<k:=by simp at ht1;omega
   have:=(yT (h₀:=(by omega:t<os.length)) (h₁:=hlt) HND.out).1 (by rw[ht2];exact(xge.1 hi).2.symm);omega
  have hlr:=zJr bi Cs;have hblen:((os.take k).map fun i=>bss.getD i 0).length=k:=by simp;omega
  have HNE:=xgv hne;have HGD:=xgv hgd;clear htk hne hgd hi hbi;go_upto_region 5 with(fail)
  refine yX 7 [pcD 6 [] (SlR bi Cs)] ?_;refine sRd ?_;refine sRc (fun wS hI Gk hG=>?_) (fun vb6 _=>?_)
  ·go_simp
   exact⟨hG _ _ ⟨_,rfl,qQ _ _ _⟩,(zA _ _).alloc (xgf _) _⟩
  refine sRe ?_;intro w5 hbw5 hb6;obtain⟨gs,rfl,hsl⟩:SlR bi Cs w5 vb6:=hb6;have hx5:=hx.below hbw5;have T75:=T7.below hbw5;have T65:=T6.below hbw5;have hr5:=hrow.below hbw5;have hb5:=nx hb hbw5;have l75:=T75.lt;clear o1 f3 q0;go_wp2_with (at_builtin;refine zYT rfl _ _ rfl (w.heap.size+2) (.slice vo vn vc) Cs _ _ rfl hx5 gs 1 bi _ rfl hsl hr5 (qC _ _) HNE.out (by rw[hblen];omega) oM ?_;intro v' w' hown hgr hlx;obtain⟨po,pn,pc',rfl⟩:=hown.shape;have T7n:=(hgr.block _ l75 (fun e=>by have:=(hx5.ownb _ e.symm).1;omega)).trans T75;have T6n:=(hgr.block _ oM (fun e=>by have:=(hx5.ownb _ e.symm).1;omega)).trans T65;obtain⟨f1,f2,f3,f4,f5,f6⟩:=Blk.three (t:=32) T7n)
  go_roundw
  case rel=>
   have T7n:Blk w' (w.heap.size+1) 32 #[.int .i64 n,.int .i64 Cs,.slice vo vn vc]:=T7n;have hX:zDv (w'.setCell ⟨w.heap.size+1,2,none⟩ (.slice po pn pc')) (w.heap.size+2) (.slice po pn pc') Cs ((os.take (k+1)).map fun i=>bss.getD i 0) ((os.take (k+1)).map fun i=>yL Cs (F i)):=by
    rw[HTB.out,HTM.out,HGD.out];exact hown.off T7n dE oM (fun b hb=>zW _ _ _ b _ hb) (T7n.lext dE _ _)
   refine⟨k+1,by simp,by omega,.slice po pn pc',by simpa using hX,?_,?_,?_⟩;exact(zW _ _ _ _ _ oM).trans T6n
   ·have:=T7n.set_ 2 (.slice po pn pc')
    simpa using this
   exact yJ (hb5.grown hgr oM (fun g hg=>by have:=(hx5.ownb g hg).1;omega)) oM _ _
  case measure=>simp[intOf];omega
 obtain rfl:k=os.length:=by omega
 obtain⟨f1,f2,f3,f4,f5,f6⟩:=T7.three;obtain⟨e1,e2,e3,e4,e5,e6⟩:=T6.three;have l6:=T6.lt;rw[yU]at hx;go_wp2;refine zAl (r:=w.heap.size) rfl rfl rfl (T6.put3 _ _ _) ⟨.slice vo vn vc,_,rfl,(hx.off T6 dE oM (fun b hbn=>zAe _ _ b _ _ _ hbn) (T6.lext3 dE _ _ _)).mono oM,?_,?_⟩
 ·intro b hb'
  obtain⟨j,hj,rfl⟩:=List.mem_map.1 hb';have hjn:j<bss.length:=by rw[HW.out.len];exact HOS.out j hj
  rw[xgb,xga hjn];exact zAV hjn
 exact yJ (yJ (yJ hb oM _ _) oM _ _) oM _ _
def zXn(t:TypeId)(n0:Nat)(cs:Array Value):World->Value->Prop:=fun w v=>∃b,v= .pointer (some ⟨b,0,none⟩)/\n0<=b/\Blk w b t cs
theorem zNC(t:TypeId)(n0:Nat)(cs:Array Value):zAQ (zXn t n0 cs):=fun _ _ _ e ⟨b,h1,h2,h3⟩=>⟨b,h1,h2,h3.below e⟩
abbrev tHe:TypeId:=108
def SlP(R:Nat):World->Value->Prop:=fun _ v=>∃o c,v= .slice o R c
theorem zPL(R:Nat):zAQ (SlP R):=fun _ _ _ _ h=>h
theorem Blk.neT{T':TypeId}{cs':Array Value}(h:Blk w a T cs)(k:Blk w b T' cs')(hT:T≠T'):a≠b:=by
 intro e;subst e;have h':w.heap[a]?=some (.cells cs T (0,0)):=h;have k':w.heap[a]?=some (.cells cs' T' (0,0)):=k;rw[h']at k';injection k' with q1
 injection q1 with _ ht
 exact hT ht
theorem zWR{al_:List AS}(h:(al_.all fun a=>!(a.op==k))=true):∀a∈al_,a.op≠k:=fun a ha e=>by
 have:=qW.1 h a ha;simp[e]at this
theorem Wri.nzb{A:Value}(h:Wri w A R C bs F){wb:Nat}(hw:Blk w wb T cs)(h1:T≠tR)(h2:T≠tI):¬ Zn A bs wb:=by
 intro hh;have hw':w.heap[wb]?=some (.cells cs T (0,0)):=hw;rcases hh with hb|hb
 ·obtain⟨r,cs',q1,-⟩:=h.blk hb
  rw[hw']at q1;injection q1 with q1
  injection q1 with _ ht
  exact h2 ht
 rcases(qA.own h).2 with⟨rfl,-⟩|⟨g,cap,cur,rfl,-,hh,-⟩
 cases hb;simp only[Value.ownBlock,Option.some.injEq]at hb;subst hb;rw[hw']at hh;injection hh with q1
 injection q1 with _ ht
 exact h1 ht
theorem zFH:∀(l m:List Nat),l.Nodup->(∀x∈l,x∈m)->l.length<=m.length
 | [],m,_,_=>zE _
 |a::l,m,h,hs=>by
  have ha:=hs a (zAC ..);obtain⟨h1,h2⟩:=zBw.1 h;have ih:=zFH l (m.erase a) h2 (fun x hx=>(List.mem_erase_of_ne (fun e=>by subst e;exact h1 hx)).2 (hs x (zR _ hx)));rw[List.length_erase_of_mem ha]at ih;have:=List.length_pos_of_mem ha;simp only[List.length_cons];omega
def zLG(n C:Nat)(F:Nat->Nat->Int)(L:List (Nat × Nat)):List Nat:=L.map (·.1)++(List.range n).filter fun i=>decide (lead C F i<0)
theorem zJ2{x:Bst}{L:List (Nat × Nat)}(h:LOk n C m x L):(L.map (·.1)).Nodup:=by
 rw[List.nodup_iff_pairwise_ne,List.pairwise_iff_getElem];intro i j hi hj hij;simp only[List.length_map]at hi hj;have:=h.inj i j hij hj;rw[xgb,xgb,xga hi,xga hj]at this;simpa using this
theorem zTo{L:List (Nat × Nat)}(h:a∈L.map (·.1)):∃k,k<L.length/\(L.getD k (0,0)).1=a:=by
 obtain⟨p,hp,rfl⟩:=List.mem_map.1 h;obtain⟨k,hk,e⟩:=qS hp;exact⟨k,hk,by rw[xgb,xga hk,e];rfl⟩
theorem zMB{x:Bst}{L:List (Nat × Nat)}(h:LOk n C m x L)(ha:a∈L.map (·.1)):a<n/\¬ lead C x.s a<0:=by
 obtain⟨k,hk,rfl⟩:=zTo ha;obtain⟨-,h2,h3,h4⟩:=h.mem k hk;exact⟨h2,fun hl=>h4 (zGv hl _ h3)⟩
theorem zK2{x:Bst}{L:List (Nat × Nat)}(h:LOk n C m x L):∀a∈zLG n C x.s L,a<n:=by
 intro a ha;rcases List.mem_append.1 ha with ha|ha
 exact(zMB h ha).1;simp only[List.mem_filter,List.mem_range]at ha;exact ha.1
theorem zHR{x:Bst}{L:List (Nat × Nat)}(h:LOk n C m x L):(zLG n C x.s L).Nodup:=by
 unfold zLG;rw[yF];refine⟨zJ2 h,List.Nodup.sublist List.filter_sublist List.nodup_range,fun a ha b hb e=>?_⟩;subst e;simp only[List.mem_filter,decide_eq_true_eq]at hb;exact(zMB h ha).2 hb.2
theorem zK1{x:Bst}{L:List (Nat × Nat)}(h:LOk n C m x L)(hz:∀a,a<n->(∀k,k<L.length->(L.getD k (0,0)).1≠a)->lead C x.s a<0):(zLG n C x.s L).length=n:=by
 have h1:=zFH _ (List.range n) (zHR h) (fun a ha=>yI.2 (zK2 h a ha));have h2:=zFH (List.range n) (zLG n C x.s L) List.nodup_range (fun a ha=>by
  have ha:=yI.1 ha;by_cases hm:a∈L.map (·.1)
  ·exact List.mem_append.2 (.inl hm)
  refine List.mem_append.2 (.inr ?_);simp only[List.mem_filter,List.mem_range,decide_eq_true_eq];refine⟨ha,hz a ha fun k hk e=>hm ?_⟩;rw[<-e,xgb,xga hk];exact List.mem_map.2 ⟨_,zAV hk,rfl⟩)
 simp only[List.length_range]at h1 h2;omega
theorem StP.mono{lo':Nat}(h:StP lo R C F w v)(hl:lo'<=lo):StP lo' R C F w v:=by
 obtain⟨g,a,b,c,h1,h0,h5,⟨bs,h2,h2'⟩,h3,h4⟩:=h;exact⟨g,a,b,c,h1,zB hl h0,h5,⟨bs,h2,fun b hb=>zB hl (h2' b hb)⟩,h3,h4⟩
theorem zId{T:Array Value}{j:Nat}(h:i≠j):(T.setIfInBounds i v).getD j d=T.getD j d:=by
 rw[zAR,zAR,xgc h]
theorem zNx{T:Array Value}(h:T[i]?=some v):T.getD i d=v:=by
 rw[zAR,h];rfl
theorem zYy{vs:List VS}(h:(vs.all fun a=>!(a.op==k))=true):∀a∈vs,a.op≠k:=fun a ha e=>by
 have:=qW.1 h a ha;simp[e]at this
theorem zYs{vs:List MS}(h:(vs.all fun a=>!(a.op==k))=true):∀a∈vs,a.op≠k:=fun a ha e=>by
 have:=qW.1 h a ha;simp[e]at this
theorem qG.ofB(h:Below B w w')(hx:zBq w w'):qG (fun b=>B<=b) w w':=⟨h.mono (zE _),hx,fun k _ hn=>h.block k (zCP hn)⟩
theorem zFT.type(h:zFT w base v xs):∀g,v.ownBlock=some g->∃cs,Blk w g tNn cs:=by
 intro g hg;rcases h.2.2 with⟨rfl,-⟩|⟨g',cap,cur,rfl,-,hh,-⟩
 cases hg;simp only[Value.ownBlock,Option.some.injEq]at hg;subst hg;exact⟨_,hh⟩
theorem zFT.ne(h:zFT w base v xs)(hb:Blk w b T cs)(hT:T≠tNn):v.ownBlock≠some b:=by
 intro e;obtain⟨cs',h2⟩:=h.type b e;exact Blk.neT hb h2 hT rfl
theorem zFT.far(h:zFT w base v xs)(hb:Blk w b T cs)(hT:T≠tNn)(i:Nat)(u:Value):zFT (w.setCell ⟨b,i,none⟩ u) base v xs:=by
 obtain⟨h1,h2,h3⟩:=id h;refine⟨h1,h2,?_⟩;rcases h3 with h3|⟨g,cap,cur,rfl,k1,k2,k3⟩
 exact .inl h3;exact .inr ⟨g,cap,cur,rfl,k1,(zW _ _ _ _ _ (fun e=>h.ne hb hT (by simp[Value.ownBlock,e]))).trans k2,k3⟩
def zUk(R C:Nat)(M:List (List Int)):World->Value->Prop:=fun w v=>∃o c,v= .agg #[.int .i64 R,.int .i64 C,.slice o R c]/\zBl w (.slice o R c) M
theorem zFE(R C:Nat)(M:List (List Int)):zAQ (zUk R C M):=fun _ _ _ x ⟨o,c,h1,h2⟩=>⟨o,c,h1,h2.below x⟩
theorem zBl.slice(h:zBl w v M):∃o c,v= .slice o M.length c:=by
 obtain⟨ao,n,cap,e1,e2,-⟩:=h;exact⟨ao,cap,by rw[e1,e2]⟩
theorem zGh(Ah ov:Value)(n Cs nb ob base:Nat)(bss os:List Nat)(F:Nat->Nat->Int)(w:World)(hw:Wri w Ah n Cs bss F)(hnb:Blk w nb 3 #[.int .i64 n])(hob:Blk w ob 96 #[ov])(hov:zFT w base ov os)
  (hos:∀x∈os,x<n) (hnd:os.Nodup) (hn:n<=1000000) (hCs:Cs<=1000000) (hlen:os.length=n):
  Calls Tryz.prog 150 #[Ah,.int .i64 Cs,.pointer (some ⟨nb,0,none⟩),.pointer (some ⟨ob,0,none⟩)] w fun e w'=>∃v,e= .returned v/\zUk n Cs (os.map fun i=>yL Cs (F i)) w' v/\Below w.heap.size w w':=by
 refine(zNV Ah ov n Cs nb ob base bss os F w hw hnb hob hov hos hnd hn hCs oM).mono ?_;rintro e w' ⟨v,bs',rfl,h1,-,h3⟩;have h2:=qA.rows h1.rows0;obtain⟨o,c,rfl⟩:=zBl.slice h2;have hl:(os.map fun i=>yL Cs (F i)).length=n:=by simp[hlen]
 rw[hl]at h2 ⊢
 exact⟨_,rfl,⟨o,c,rfl,h2⟩,h3⟩
structure zMg(w:World)(f:Value)(R C:Nat)(H U V:List (List Int)):Prop where
 ex:∃h u v,f= .agg #[.int .i64 R,.int .i64 C,h,.int .i64 R,.int .i64 R,u,.int .i64 R,.int .i64 R,v]/\zBl w h H/\zBl w u U/\zBl w v V
def zVI(R C:Nat)(H U V:List (List Int)):World->Value->Prop:=fun w f=>∃ho hc uo uc vo vc,f= .agg #[.int .i64 R,.int .i64 C,.slice ho R hc,.int .i64 R,.int .i64 R,.slice uo R uc,.int .i64 R,.int .i64 R,.slice vo R vc]/\zBl w (.slice ho R hc) H/\zBl w (.slice uo R uc) U/\zBl w (.slice vo R vc) V
theorem zLv(R C:Nat)(H U V:List (List Int)):zAQ (zVI R C H U V):=fun _ _ _ x ⟨a,b,c,d,e,f,h1,h2,h3,h4⟩=>⟨a,b,c,d,e,f,h1,h2.below x,h3.below x,h4.below x⟩
theorem Tryz.sizeHe:(Tryz.prog.info? tHe).map (·.size)=some 9:=by kernel_rfl
theorem zVY(ha:a<os.length)(hb:b<C):ent (os.map fun i=>yL C (F i)) a b=F (os.getD a 0) b:=by
 have h1:(os.map fun i=>yL C (F i))[a]?=some (yL C (F (os.getD a 0))):=by
  rw[List.getElem?_map,xga ha,Option.map_some,xgb,xga ha];rfl
 exact zGG h1 (yE hb)
theorem zTT(h:os.length=n):zBc n C (os.map fun i=>yL C (F i)):=by
 refine⟨by simp[h],fun r hr=>?_⟩;obtain⟨i,-,rfl⟩:=List.mem_map.1 hr;exact qC _ _
theorem zQI(hB:BSm B)(h:zUk n n (os.map fun i=>yL n (F i)) w v)(hl:os.length=n)(ho:∀x∈os,x<n)(hok:okF B n n F)(hn:n<=1000000):
  Calls Tryz.prog 151 #[v] w fun e w'=>∃v,e= .returned v/\zUk n n (genM n n fun a b=>F (os.getD b 0) a) w' v/\Below w.heap.size w w':=by
 obtain⟨o,c,rfl,hr⟩:=h;refine(zGJ _ n n _ w ⟨_,rfl,hr⟩ (zTT hl) hn hn ?_).mono ?_
 ·intro r hr z hz
  obtain⟨i,hi,rfl⟩:=List.mem_map.1 hr;obtain⟨j,hj,e⟩:=qS hz;rw[qC]at hj;have e2:=yE (f:=F i) hj;rw[xga (by rw[qC];exact hj),e]at e2;injection e2 with e2
  rw[e2];exact hB.sm _ (hok i (ho i hi) j hj)
 intro e w' hr;have hq:genM n n (fun a b=>ent (os.map fun i=>yL n (F i)) b a)=genM n n (fun a b=>F (os.getD b 0) a):=zAM fun i hi j hj=>zVY oM hi
 rw[hq]at hr;obtain⟨v,rfl,⟨o,c,bs,h1,h2,h3⟩,hb⟩:=zEo.within hr;exact⟨v,rfl,⟨o,c,h1,qA.rows h2⟩,hb⟩
theorem zOQ(k:Nat):((List.range (k+1)).filter fun i=>decide (lead C F i<0))=((List.range k).filter fun i=>decide (lead C F i<0))++(if lead C F k<0 then [k]else []):=by
 rw[zCb,List.filter_append];congr 1;by_cases h:lead C F k<0
 ·rw[if_pos h];simp[h]
 rw[if_neg h];simp[h]
theorem zRH(hB:BSd B)(v:Value)(M:List (List Int))(R C:Nat)(w:World)(h:zAO w v R C M)(hF:zBc R C M)(hR:R<=1000000)(hC:C<=1000000)(hok:okF B R C (ent M))(s1:Sm 1){J J':Nat->Bst->List (Nat × Nat)->Prop}(hE:zUi B R C R J J')(hJ:J 0 ⟨ent M,idf,idf⟩ [])
  (hend:∀y L,J R y L->∀a,a<R->(∀k,k<L.length->(L.getD k (0,0)).1≠a)->lead C y.s a<0):
  Calls Tryz.prog 102 #[v] w fun e w'=>∃v y L,e= .returned v/\J R y L/\(zLG R C y.s L).length=R/\zMg w' v R C ((zLG R C y.s L).map fun i=>yL C (y.s i)) ((zLG R C y.s L).map fun i=>yL R (y.t i)) (genM R R fun a b=>y.i ((zLG R C y.s L).getD b 0) a)/\Below w.heap.size w w':=by
 have h0:=h;obtain⟨A,rfl,h⟩:=h;obtain⟨ao,n,cap,rfl,e2,e3,e4,-⟩:=id h;obtain rfl:R=n:=by rw[<-e2,hF.1]
 have hdv:decide (zBL R C M)=true:=decide_eq_true hF.valid;have HF:=xgv hF;have HOK:=xgv hok;have H0:=xgv h0;have S1:=xgv s1;have HE:=xgv hE;have HJ:=xgv hJ;have HEND:=xgv hend;clear hok h0 hF e2 s1 hE hJ hend;go_enter Tryz.func102,Tryz.ntmps102;go_upto_region 1 with(fail)
 refine zD ?_;intro W0 hW0;obtain⟨hB0,bx1,br,hs0⟩:=zAd hW0;obtain⟨c1,c2,c3,c4,c5,c6⟩:=bx1.three;clear hW0;go_wp2_with fail
 refine(zDH _ R C M W0 (H0.out.below hB0)).mono ?_;rintro e w1 ⟨rfl,hb1⟩;rw[hdv];have bx1:=bx1.below hb1;have br:=br.below hb1;have hB1:=nx hB0 hb1;have hs1:=hb1.size;clear c1 c2 c3 c4 c5 c6 hdv;obtain⟨c1,c2,c3,c4,c5,c6⟩:=bx1.three;have hl1:=zJs w1.heap.size R C (ent M);have hl2:=zNC 3 w1.heap.size #[.int .i64 0];go_upto_region 3 with(fail)
 refine yX 5 [pcD 3 [] (StP w1.heap.size R C (ent M)),pcD 4 [] (zXn 3 w1.heap.size #[.int .i64 0])] ?_;refine sRd ?_;refine sRc (fun wS hI Gk hG=>?_) (fun va3 _=>?_)
 ·go_simp
  refine(zMF hB.bsm _ M R C _ ((H0.out.below hB1).below hI.bel).off HF.out hR hC HOK.out S1.out).mono ?_;rintro e wa ⟨v,rfl,hv,hba⟩;exact⟨_,rfl,hG _ _ (hv.mono hI.bel.size),hba⟩
 refine sRc (fun wS hI Gk hG=>?_) (fun va4 _=>?_)
 ·go_simp
  exact⟨hG _ _ ⟨_,rfl,hI.bel.size,qQ _ _ _⟩,(zA _ _).alloc (xgf _) _⟩
 refine sRe ?_;intro w2 hbw2 ha3 ha4;obtain⟨bw,Ah,Au,Av,rfl,q1,q2,q3,-,-⟩:StP w1.heap.size R C (ent M) w2 va3:=ha3;obtain⟨bn,rfl,q4,q5⟩:zXn 3 w1.heap.size #[.int .i64 0] w2 va4:=ha4;obtain⟨bss,hws,hzs⟩:=q3;obtain⟨n1,n2⟩:w2.cell? ⟨bn,0,none⟩=some (.int .i64 0)/\w2.frozen? ⟨bn,0,none⟩=false:=⟨q5.cell 0,q5.frozen 0⟩;have hnbw:bn≠bw:=Blk.neT q5 q2 dE;have hB2:=nx hB1 hbw2;have br:=br.below hbw2;have bx1:=bx1.below hbw2;have hs2:=hbw2.size;clear c1 c2 c3 c4 c5 c6 hl1 hl2;go_upto_region 4 with(fail)
 refine zD ?_;intro W2 hW2;have ho2:qG (fun b=>b=bn) w2 W2:=by rw[hW2.out];exact⟨yJ (zA _ _) (zE _) _ _,q5.lext dE _ _,fun b _ hb=>zW _ _ _ _ _ hb⟩
 have hB2:Below w.heap.size w W2:=by rw[hW2.out];exact yJ hB2 oM _ _
 have hws:=hws.keepZ ho2 (by rintro b hb rfl;exact hws.nzb q5 dE dE hb);have q2:=ho2.blk q2 (zP hnbw);have br:=ho2.blk br oM;have bx1:=ho2.blk bx1 oM;have q5:Blk W2 bn 3 #[.int .i64 R]:=by rw[hW2.out];simpa using q5.set_ 0 (.int .i64 R)
 have hs2:=zB hs2 ho2.bel.size;have n1:=q5.cell 0;have hl1:=zPL R;have lws:∀b,Zn Ah bss b->b<W2.heap.size:=fun b hb=>hws.zlt hb
 have HWS:=xgv hws;have LWS:=xgv lws;have hlb:=q2.lt;obtain⟨so,sc,rfl⟩:=hws.shape;clear hW2 ho2 n2 hws lws;refine zBM 11 rfl (RXS W2 _ [⟨0,17,fun _ v=>v= .pointer (some ⟨bw,0,none⟩)⟩,⟨1,18,fun _ v=>v= .pointer (some ⟨bw,0,none⟩)⟩,⟨2,19,fun _ v=>v= .int .i64 R⟩,⟨4,21,SlP R⟩,⟨5,22,fun _ v=>v= .int .i64 R⟩,⟨7,24,SlP R⟩,⟨8,25,fun _ v=>v= .pointer (some ⟨bw,0,none⟩)⟩,⟨9,26,fun _ v=>v= .pointer (some ⟨bw,1,none⟩)⟩] [⟨3,20,R,R,idf⟩,⟨6,23,R,R,idf⟩] [⟨4,21,⟨3,20,R,R,idf⟩⟩,⟨7,24,⟨6,23,R,R,idf⟩⟩] 10 (fun T w=>w.setCell ⟨bw,1,none⟩ (T.getD 21 undef))) kR (RXS.start (RX.start kR (by repeat' (first|exact zDG _|exact zDx _|assumption|refine xgm.2 ⟨?_,?_⟩|exact xgn _)) (by
   refine xgm.2 ⟨⟨mm0,_,mm3,rfl,rfl⟩,xgm.2 ⟨⟨mm1,_,mm5,rfl,rfl⟩,xgn _⟩⟩))) ?finX ?stepsX
 case stepsX=>
  refine⟨?_,?_,?_,?_,?_,?_,?_,?_,?_,?_,?_,trivial⟩
  ·refine yM.liftX kR dE ?_
   intro L T wS hL hd hcl hI K hK;try refine zK rfl ?_
   have zt:T[4]?=some (.pointer (some ⟨bw,0,none⟩)):=hI.g.keep 4 sI sI;go_simp;exact hK _ _ (hI.y mm0 rfl (zWR kR))
  ·intro L T wS hL hd hcl hI K hK
   try refine zK rfl ?_
   have zt:T[4]?=some (.pointer (some ⟨bw,0,none⟩)):=by
    obtain⟨w0,h0,-,-⟩:=hI;exact h0.g.keep 4 sI sI
   go_simp;exact hK _ _ (hI.step (fun w0 h0=>h0.y mm1 rfl (zWR kR)) dE (fun w=>by rw[zId dE]))
  ·refine yM.liftX kR dE ?_
   intro L T wS hL hd hcl hI K hK;try refine zK rfl ?_
   have zt:T[3]?=some (.pointer (some ⟨bn,0,none⟩)):=hI.g.keep 3 sI sI;have cc0:=hI.g.cell n1;go_simp;exact hK _ _ (hI.y mm2 rfl (zWR kR))
  ·refine yM.liftX kR dE ?_
   intro L T wS hL hd hcl hI K hK;try refine zK rfl ?_
   obtain⟨_,zt2,rfl⟩:=hI.g.val _ mm2 (hd 2);go_simp;refine(zJy R _ hR).mono ?_;rintro e wa ⟨v,rfl,hv,hba⟩;exact hK _ _ (hI.mat hcl hL ⟨3,20,_,_,_⟩ mm0 rfl hba hv kR)
  ·refine yM.liftX kR dE ?_
   intro L T wS hL hd hcl hI K hK;try refine zK rfl ?_
   obtain⟨_,zt3,o,c,rfl⟩:=hI.g.matv ⟨3,20,R,R,idf⟩ mm0 (hd 3);go_simp;exact hK _ _ (hI.alias ⟨4,21,⟨3,20,R,R,idf⟩⟩ mm0 ⟨4,21,SlP R⟩ mm3 rfl rfl ⟨o,c,rfl⟩ (hd 3) (by
    refine xgm.2 ⟨fun _=>rfl,xgm.2 ⟨fun e=>absurd e (by dsimp only;omega),xgn _⟩⟩) zt3 rfl)
  ·refine yM.liftX kR dE ?_
   intro L T wS hL hd hcl hI K hK;try refine zK rfl ?_
   have zt:T[3]?=some (.pointer (some ⟨bn,0,none⟩)):=hI.g.keep 3 sI sI;have cc0:=hI.g.cell n1;go_simp;exact hK _ _ (hI.y mm4 rfl (zWR kR))
  ·refine yM.liftX kR dE ?_
   intro L T wS hL hd hcl hI K hK;try refine zK rfl ?_
   obtain⟨_,zt5,rfl⟩:=hI.g.val _ mm4 (hd 5);go_simp;refine(zJy R _ hR).mono ?_;rintro e wa ⟨v,rfl,hv,hba⟩;exact hK _ _ (hI.mat hcl hL ⟨6,23,_,_,_⟩ mm1 rfl hba hv kR)
  ·intro L T wS hL hd hcl hI K hK
   try refine zK rfl ?_
   obtain⟨o,c,zt6⟩:∃o c,T[23]?=some (.agg #[.int .i64 R,.int .i64 R,.slice o R c]):=by
    obtain⟨w0,h0,-,-⟩:=hI;obtain⟨_,zt6,o,c,rfl⟩:=h0.g.matv ⟨6,23,R,R,idf⟩ mm1 (hd 6);exact⟨o,c,zt6⟩
   have h6:=hd 6 kR;go_simp;exact hK _ _ (hI.step (fun w0 h0=>h0.alias ⟨7,24,⟨6,23,R,R,idf⟩⟩ mm1 ⟨7,24,SlP R⟩ mm5 rfl rfl ⟨o,c,rfl⟩ h6 (by
    refine xgm.2 ⟨fun e=>absurd e (by dsimp only;omega),xgm.2 ⟨fun _=>rfl,xgn _⟩⟩) zt6 rfl) dE (fun w=>by rw[zId dE]))
  ·refine yM.liftX kR dE ?_
   intro L T wS hL hd hcl hI K hK;try refine zK rfl ?_
   obtain⟨_,zt0,rfl⟩:=hI.g.val _ mm0 (hd 0);go_simp;exact hK _ _ (hI.y mm6 rfl (zWR kR))
  ·refine yM.liftX kR dE ?_
   intro L T wS hL hd hcl hI K hK;try refine zK rfl ?_
   obtain⟨_,zt8,rfl⟩:=hI.g.val _ mm6 (hd 8);go_simp;exact hK _ _ (hI.y mm7 rfl (zWR kR))
  intro L T wS hL hd hcl hJ K hK;try refine zK rfl ?_
  have hI:=hJ.here hL;obtain⟨_,zt9,rfl⟩:=hI.g.val _ mm7 (hd 9);obtain⟨_,zt4,o,c,rfl⟩:=hI.g.val _ mm3 (hd 4);obtain⟨g1,g2,g3,g4,g5,g6⟩:=(q2.below hI.g.bel).three;go_simp;exact hK _ _ (RXS.store hI hL (zYy kR) (zYs kR) (by show _=World.setCell _ _ _;rw[zNx zt4]))
 intro T w3 hJ;obtain⟨w0,hX,-,hst⟩:=hJ;replace hst:=hst kR;obtain⟨bot,top,g1,g2⟩:=hX.g.gh;obtain⟨k1,k2,m1,k3,k4⟩:=g1 ⟨3,20,R,R,idf⟩ mm0 rfl;obtain⟨k5,k6,m2,k7,k8⟩:=g1 ⟨6,23,R,R,idf⟩ mm1 rfl;have k9:=g2 ⟨3,20,R,R,idf⟩ mm0 ⟨6,23,R,R,idf⟩ mm1 (by dsimp only;omega) rfl rfl;obtain⟨-,o1,c1,a1,a2⟩:=hX.al ⟨4,21,⟨3,20,R,R,idf⟩⟩ mm0 rfl;obtain⟨-,o2,c2,a3,a4⟩:=hX.al ⟨7,24,⟨6,23,R,R,idf⟩⟩ mm1 rfl;have e21:T.getD 21 undef= .slice o1 R c1:=zNx a2;replace hst:w3=w0.setCell ⟨bw,1,none⟩ (T.getD 21 undef):=hst;rw[e21]at hst;obtain⟨_,z17,rfl⟩:=hX.g.val _ mm0 rfl;obtain⟨_,z18,rfl⟩:=hX.g.val _ mm1 rfl;obtain⟨_,z19,rfl⟩:=hX.g.val _ mm2 rfl;obtain⟨_,z22,rfl⟩:=hX.g.val _ mm4 rfl;obtain⟨_,z25,rfl⟩:=hX.g.val _ mm6 rfl;obtain⟨_,z26,rfl⟩:=hX.g.val _ mm7 rfl;have hT:=zED [(17,.pointer (some ⟨bw,0,none⟩)),(18,.pointer (some ⟨bw,0,none⟩)),(19,.int .i64 R),(21,.slice o1 R c1),(22,.int .i64 R),(24,.slice o2 R c2),(25,.pointer (some ⟨bw,0,none⟩)),(26,.pointer (some ⟨bw,1,none⟩)),(20,.agg #[.int .i64 R,.int .i64 R,.slice o1 R c1]),(23,.agg #[.int .i64 R,.int .i64 R,.slice o2 R c2])]
  (fun j hj=>hX.g.keep j (by simp only[xgm]at hj ⊢;simp[hj]) (by simp only[xgm]at hj ⊢;simp[hj]))
  (by simp only[xgm];simp[z17,z18,z19,a2,z22,a4,z25,z26,a1,a3]) hX.g.size
 have hbl:=hX.g.bel;obtain⟨bst,wt,zt⟩:∃bst,Wri w0 (.slice o1 R c1) R R bst idf/\∀b,Zn (.slice o1 R c1) bst b->bot 3<=b/\b<top 3:=by
  obtain⟨o',c',bst,e,q1,q2⟩:=k4;have e1:=k3.symm.trans a1;injection e1 with e1
  rw[e1]at e;injection e with e
  simp only[Array.mk.injEq,List.cons.injEq,Value.slice.injEq,true_and,and_true]at e;obtain⟨rfl,rfl⟩:=e;exact⟨bst,q1,q2⟩
 obtain⟨bsi,wi,zi⟩:∃bsi,Wri w0 (.slice o2 R c2) R R bsi idf/\∀b,Zn (.slice o2 R c2) bsi b->bot 6<=b/\b<top 6:=by
  obtain⟨o',c',bst,e,q1,q2⟩:=k8;have e1:=k7.symm.trans a3;injection e1 with e1
  rw[e1]at e;injection e with e
  simp only[Array.mk.injEq,List.cons.injEq,Value.slice.injEq,true_and,and_true]at e;obtain⟨rfl,rfl⟩:=e;exact⟨bst,q1,q2⟩
 dsimp only at k1 k2 k5 k6 k9;have hWA:=HWS.out.below hbl;have p1:Ap (.slice so R sc) bss (.slice o1 R c1) bst:=zB7 (a:=0) (b:=W2.heap.size) (fun x hx=>⟨zE _,LWS.out x hx⟩) zt k1;have p2:Ap (.slice so R sc) bss (.slice o2 R c2) bsi:=zB7 (a:=0) (b:=W2.heap.size) (fun x hx=>⟨zE _,LWS.out x hx⟩) zi k5;have p3:Ap (.slice o1 R c1) bst (.slice o2 R c2) bsi:=zB7 zt zi k9;have q20:=q2.below hbl;have hB3:=nx hB2 hbl;have br:=br.below hbl;have bx1:=bx1.below hbl;have q5:=q5.below hbl;have q23:Blk w3 bw tHW #[.slice so R sc,.slice o1 R c1,Av]:=by rw[hst];simpa using q20.set_ 1 (.slice o1 R c1)
 have ho3:qG (fun b=>b=bw) w0 w3:=by rw[hst];exact⟨yJ (zA _ _) (zE _) _ _,q20.lext dE _ _,fun b _ hb=>zW _ _ _ _ _ hb⟩
 have hB3:Below w.heap.size w w3:=by rw[hst];exact yJ hB3 oM _ _
 have wA:=hWA.keepZ ho3 (by rintro b hb rfl;exact hWA.nzb q20 dE dE hb);have wT:=wt.keepZ ho3 (by rintro b hb rfl;exact wt.nzb q20 dE dE hb);have wI:=wi.keepZ ho3 (by rintro b hb rfl;exact wi.nzb q20 dE dE hb);have br:=ho3.blk br oM;have bx1:=ho3.blk bx1 oM;have q5:=ho3.blk q5 hnbw;have hs3:w1.heap.size<=w3.heap.size:=by have:=hbl.size;have:=ho3.bel.size;omega
 have WA:=xgv wA;have WT:=xgv wT;have WI:=xgv wI;have ZT:=xgv (fun b (hb:Zn (.slice o1 R c1) bst b)=>zB k1 (zt b hb).1);have ZI:=xgv (fun b (hb:Zn (.slice o2 R c2) bsi b)=>zB k5 (zi b hb).1);have P1:=xgv p1;have P2:=xgv p2;have P3:=xgv p3;clear hX g1 g2 k1 k2 k3 k4 k5 k6 k7 k8 k9 a1 a2 a3 a4 z17 z18 z19 z22 z25 z26 e21 hWA wt zt wi zi wA wT wI p1 p2 p3 q20 ho3 hst hbl HWS LWS n1 q2 bot top;simp only[List.foldl_cons,List.foldl_nil,xgh,xgi,xgj,ptr]at hT;subst hT;simp only[xgl,xgk];obtain⟨g1,g2,g3,g4,g5,g6⟩:=q23.three;go_upto_region 5 with(fail)
 refine zD ?_;intro W4 hW4;have ho4:qG (fun b=>b=bw) w3 W4:=by rw[hW4.out];exact⟨yJ (zA _ _) (zE _) _ _,q23.lext dE _ _,fun b _ hb=>zW _ _ _ _ _ hb⟩
 have hB4:Below w.heap.size w W4:=by rw[hW4.out];exact yJ hB3 oM _ _
 have q24:Blk W4 bw tHW #[.slice so R sc,.slice o1 R c1,.slice o2 R c2]:=by rw[hW4.out];simpa using q23.set_ 2 (.slice o2 R c2)
 have wA:=WA.out.keepZ ho4 (by rintro b hb rfl;exact WA.out.nzb q23 dE dE hb);have wT:=WT.out.keepZ ho4 (by rintro b hb rfl;exact WT.out.nzb q23 dE dE hb);have wI:=WI.out.keepZ ho4 (by rintro b hb rfl;exact WI.out.nzb q23 dE dE hb);have br:=ho4.blk br oM;have bx1:=ho4.blk bx1 oM;have q5:=ho4.blk q5 hnbw;have hs4:w1.heap.size<=W4.heap.size:=by have:=ho4.bel.size;omega
 have hband:zFS W4 (.slice so R sc) (.slice o1 R c1) (.slice o2 R c2) R C R bss bst bsi (ent M) idf idf:=⟨wA,wT,wI,P1.out.far,P2.out.far,P3.out.far,P1.out.own,P2.out.own,P3.out.own⟩;obtain⟨Z,hZ⟩:∃Z:Nat->Prop,Z=fun b=>b∈bss∨b∈bst∨b∈bsi:=⟨_,rfl⟩
 have hrun:zD7 true Z W4 bw (.slice so R sc) R C R ⟨ent M,idf,idf⟩:=⟨_,_,bss,bst,bsi,q24,hband,fun b hb=>by rw[hZ];exact hb⟩;have hzl:∀b,Z b->b<W4.heap.size:=fun b hb=>by
  rw[hZ]at hb;rcases hb with hb|hb|hb
  exact wA.zlt (.inl hb);exact wT.zlt (.inl hb);exact wI.zlt (.inl hb)
 have hzt:∀{b:Nat} {T:TypeId} {cs:Array Value},Blk W4 b T cs->T≠tR->T≠tI->¬ Z b:=fun hb h1 h2 hz=>by
  rw[hZ]at hz;rcases hz with hz|hz|hz
  exact wA.nzb hb h1 h2 (.inl hz);exact wT.nzb hb h1 h2 (.inl hz);exact wI.nzb hb h1 h2 (.inl hz)
 have hgz:∀g,(Value.slice so R sc).ownBlock=some g->¬ Z g:=fun g hg hz=>by
  rw[hZ]at hz;rcases hz with hz|hz|hz
  exact wA.rown wA hz hg;exact wT.rown wA hz hg;exact wI.rown wA hz hg
 have hlo:∀b,Zn (.slice so R sc) bss b∨Zn (.slice o1 R c1) bst b∨Zn (.slice o2 R c2) bsi b->b<W4.heap.size:=fun b hb=>by
  rcases hb with hb|hb|hb
  exact wA.zlt hb;exact wT.zlt hb;exact wI.zlt hb
 have hzw:∀b,Z b->w.heap.size<=b:=fun b hb=>by
  rw[hZ]at hb;rcases hb with hb|hb|hb
  have:=hzs b (.inl hb);omega;have:=ZT.out b (.inl hb);omega;have:=ZI.out b (.inl hb);omega
 have nz5:=hzt q5 dE dE;have nzb:=hzt q24 dE dE;have nzr:=hzt br dE dE;have nz1:=hzt bx1 dE dE;clear hzt hZ g1 g2 g3 g4 g5 g6 hW4 ho4 WA WT WI P1 P2 P3 hband wA wT wI;go_wp2_with fail
 refine(zOE hB HE.out hrun HJ.out hR hC hR hzl hgz).mono ?_;rintro e w5 ⟨pv,y,Lp,rfl,hO,hz,hJ,hP⟩;obtain⟨hokx,hL⟩:=HE.out.ok R y Lp hJ;obtain⟨po,pcap,rfl,-,-,-⟩:=hP.at_;unfold zD7 at hz;rw[if_pos rfl]at hz;obtain⟨Au',Av',bsh,bsu,bsv,r1,r2,r3⟩:=hz;have q25:=hO.blk q24 nzb;obtain⟨rfl,rfl⟩: .slice o1 R c1=Au'/\.slice o2 R c2=Av':=by
  have e1:w5.heap[bw]?=some (.cells #[.slice so R sc,.slice o1 R c1,.slice o2 R c2] tHW (0,0)):=q25;have e2:w5.heap[bw]?=some (.cells #[.slice so R sc,Au',Av'] tHW (0,0)):=r1;rw[e1]at e2;injection e2 with e2
  injection e2 with e2
  simp only[Array.mk.injEq,List.cons.injEq,true_and,and_true]at e2;exact e2
 have hlA:∀b,Zn (.slice so R sc) bsh b->¬ (W4.heap.size<=b):=fun b hb=>by
  rcases hb with hb|hb
  have:=hzl b (r3 b (.inl hb));omega;have:=hlo b (.inl (.inr hb));omega
 have hlU:∀b,Zn (.slice o1 R c1) bsu b->¬ (W4.heap.size<=b):=fun b hb=>by
  rcases hb with hb|hb
  have:=hzl b (r3 b (.inr (.inl hb)));omega;have:=hlo b (.inr (.inl (.inr hb)));omega
 have hlV:∀b,Zn (.slice o2 R c2) bsv b->¬ (W4.heap.size<=b):=fun b hb=>by
  rcases hb with hb|hb
  have:=hzl b (r3 b (.inr (.inr hb)));omega;have:=hlo b (.inr (.inr (.inr hb)));omega
 have hB5:Below w.heap.size w w5:=zEp hB4 (hO.mono (Z':=fun k=>w.heap.size<=k) (fun k _ hk=>hzw k hk)) (xgf _) hB4.size;have lbx:=bx1.lt;have lbr:=br.lt;have br:=hO.blk br nzr;have lbn:=q5.lt;have bx1:=hO.blk bx1 nz1;have q5:=hO.blk q5 nz5;have l24:=q24.lt;have l45:=hO.bel.size;have HL:=xgv hL;have HOX:=xgv hokx;have HJY:=xgv hJ;have hlenO:=zK1 hL (HEND.out y Lp hJ);have HLT:=xgv (zK2 hL);have HND:=xgv (zHR hL);have hLl:=hL.len;go_upto_region 6 with(fail)
 refine zD ?_;intro W6 hW6;obtain⟨hB6',T5,hs6⟩:=qM hW6;have hB6:=nx hB5 hB6';have HA:=xgv (r2.s.below hB6');have HU:=xgv (r2.t.below hB6');have HW:=xgv (r2.i.below hB6');have HP:=xgv (hP.below hB6');have q25:=q25.below hB6';have br:=br.below hB6';have bx1:=bx1.below hB6';have q5:=q5.below hB6';obtain⟨g1,g2,g3,g4,g5,g6⟩:=q25.three;have hs56:=hB6'.size;have hnd:=HND.out;clear hW6 hP hL hokx hJ r1 r2 hB6' hlo hzw hrun hzl hgz hnd;go_wp2;go_loopw [36] (fun iv wr=>∃(k:Nat) (v:Value),iv= .int .i64 k/\k<=R/\Blk wr w5.heap.size 96 #[v]/\zAN (zFT wr W4.heap.size v (Lp.map (·.1)++(List.range k).filter fun i=>decide (lead C y.s i<0)))/\Below W4.heap.size W6 wr/\zBq W6 wr) (fun iv _=>R-(intOf iv).toNat)
 case atStart=>exact⟨0,_,rfl,by omega,T5,⟨by simpa using HP.out⟩,zA _ _,zBq.refl _⟩
 clear T5 HP;obtain⟨k,uv,rfl,hk,T5,HV,hb,hx⟩:=hrel;obtain⟨uo,ucap,rfl,-,-,-⟩:=HV.out.at_;obtain⟨un,hun⟩:∃un,(Lp.map (·.1)++(List.range k).filter fun i=>decide (lead C y.s i<0)).length=un:=⟨_,rfl⟩;rw[hun]at T5 HV;have hoB:=qG.ofB hb hx;have hwr:=HA.out.keepZ hoB hlA;have hsz:=hb.size;by_cases hlt:k<R
 ·obtain⟨g,bi,eg,lg,hbi,-,o1',-⟩:=qA.at_ hwr (i:=k) (by rw[hwr.len];exact hlt)
  subst eg;have hrow:=hwr.rowAt hlt hbi;have hVec:=hrow.vec (qC _ _) (xgf _) oM;clear hwr;go_wp2_with fail
  refine(zEc _ _ _ hVec).mono ?_;rintro e w7 ⟨rfl,hb7⟩;rw[zKk];obtain⟨c0,hc0⟩:∃c0,lead C y.s k=c0:=⟨_,rfl⟩;rw[hc0];have T7:=T5.below hb7;have HV7:=xgv (HV.out.below hb7);have hbn7:Below W4.heap.size W6 w7:=hb.trans (hb7.mono oM);have hxn7:=hx.trans (lx hb7);have hs7:=hb7.size;by_cases hneg:c0<0
  ·have hst:(List.range (k+1)).filter (fun i=>decide (lead C y.s i<0))=(List.range k).filter (fun i=>decide (lead C y.s i<0))++ [k]:=by rw[zOQ,if_pos (by rw[hc0];exact hneg)]
   have HST:=xgv hst;obtain⟨t1,t2⟩:w7.cell? ⟨w5.heap.size,0,none⟩=some (.slice uo un ucap)/\w7.frozen? ⟨w5.heap.size,0,none⟩=false:=⟨T7.cell 0,T7.frozen 0⟩;have hys:∀w':World,zHh (w'.alloc (.cells #[.int .i64 k] tNn)) (some ⟨w'.heap.size,0,none⟩) [k]:=fun w'=>⟨by simp;omega,fun _=>⟨_,0,_,rfl,heap_alloc_new w' _,fun k x hk=>by
    match k with
    |0=>simp at hk;subst hk;rfl
    |k+1=>simp at hk⟩⟩
   have hfl:((List.range k).filter fun i=>decide (lead C y.s i<0)).length<=k:=by
    have:=zCD (fun i=>decide (lead C y.s i<0)) (List.range k);simpa using this
   have l7:=T7.lt;clear hc0 hst hVec hrow o1';go_wp2_with (at_builtin;refine zYS rfl _ _ rfl W4.heap.size (.slice uo un ucap) _ rfl (HV7.out.alloc _) (some ⟨w7.heap.size,0,none⟩) 1 1 [k] rfl (hys w7) rfl (by simp only[List.length_append,List.length_map];omega) (by simp;omega) ?_;intro v' w' hown hgr;obtain⟨vo,vn,vcap,rfl⟩:∃a b c,v'= .slice a b c:=(by obtain⟨p,q,r,-,-,-⟩:=hown.at_;exact⟨_,_,_,r⟩);have T8:Blk w' w5.heap.size 96 #[.slice uo un ucap]:=(hgr.block _ (T7.alloc _).lt (fun e=>HV7.out.ne T7 dE e.symm)).trans (T7.alloc _);obtain⟨t3,t4⟩:w'.cell? ⟨w5.heap.size,0,none⟩=some (.slice uo un ucap)/\w'.frozen? ⟨w5.heap.size,0,none⟩=false:=⟨T8.cell 0,T8.frozen 0⟩)
   have hgr:World.grownBy (w7.alloc (.cells #[.int .i64 k] tNn)) w' (Value.ownBlock (.slice uo un ucap)):=hgr;have T8:Blk w' w5.heap.size 96 #[.slice uo un ucap]:=T8;have hx8:zBq w7 w':=(lx ((zA _ _).alloc (xgf _) _)).trans (zEF (HV7.out.alloc _).2 dE hgr);have hb8:Below W4.heap.size W6 w':=(hbn7.alloc oM _).grown hgr (by simp;omega) (fun g hg=>(HV7.out.own g hg).1);go_roundw
   case rel=>
    refine⟨k+1,_,by simp,by omega,by simpa using T8.set_ 0 _,⟨?_⟩,yJ hb8 oM _ _,(hxn7.trans hx8).trans (T8.lext dE _ _)⟩;rw[HST.out,<-zAZ];exact hown.far T8 dE 0 _
   case measure=>simp[intOf];omega
  have hst:(List.range (k+1)).filter (fun i=>decide (lead C y.s i<0))=(List.range k).filter (fun i=>decide (lead C y.s i<0)):=by rw[zOQ,if_neg (by rw[hc0];exact hneg),zBF]
  have HST:=xgv hst;clear hc0 hst hVec hrow o1';go_wp2;go_roundw
  case rel=>exact⟨k+1,_,by simp,by omega,T7,⟨by rw[HST.out];exact HV7.out⟩,hbn7,hxn7⟩
  case measure=>simp[intOf];omega
 obtain rfl:R=k:=by omega
 have hos:zLG R C y.s Lp=Lp.map (·.1)++(List.range R).filter fun i=>decide (lead C y.s i<0):=rfl
 rw[<-hos]at HV hun;obtain⟨os,hose⟩:∃os,zLG R C y.s Lp=os:=⟨_,rfl⟩;rw[hose]at HV hun HLT HND hlenO;have HOSE:=xgv hose;have HWR:=xgv hwr;have HUR:=xgv (HU.out.keepZ hoB hlU);have HVR:=xgv (HW.out.keepZ hoB hlV);have q25:=q25.belowB hb l24;have q5:=q5.belowB hb lbn;have bx1:=bx1.belowB hb lbx;have br:=br.belowB hb lbr;have hBr:Below w.heap.size w wr:=zEp hB6 ((qG.ofB hb hx).mono (Z':=fun k=>w.heap.size<=k) (fun k _ hk=>by omega)) (xgf _) hB6.size;have n1:=q5.cell 0;obtain⟨k1,k2,k3,-,-,-⟩:=bx1.three;have hl1:=zFE R C (os.map fun i=>yL C (y.s i));have hl2:=zFE R R (os.map fun i=>yL R (y.t i));have hl3:=zFE R R (os.map fun i=>yL R (y.i i));have hl4:=zFE R R (genM R R fun a b=>y.i (os.getD b 0) a);have hl5:=zLv R C (os.map fun i=>yL C (y.s i)) (os.map fun i=>yL R (y.t i)) (genM R R fun a b=>y.i (os.getD b 0) a);obtain⟨g1,g2,g3,-,-,-⟩:=q25.three;clear hos hose hwr hoB hlA hlU hlV HA HU HW hb hx g4 g5 g6;go_upto_region 13 with(fail)
 refine yX 24 [pcD 7 [] (zUk R C (os.map fun i=>yL C (y.s i))),pcD 14 [] (zUk R R (os.map fun i=>yL R (y.t i))),pcD 21 [] (zUk R R (os.map fun i=>yL R (y.i i))),pcD 22 [21] (zUk R R (genM R R fun a b=>y.i (os.getD b 0) a)),pcD 23 [7,14,22] (zVI R C (os.map fun i=>yL C (y.s i)) (os.map fun i=>yL R (y.t i)) (genM R R fun a b=>y.i (os.getD b 0) a))] ?_;refine sRd ?_;refine sRc (fun wS hI Gk hG=>by go_simp;exact ck hG (zGh _ _ R C bn _ _ bsh _ _ _ (HWR.out.below hI.bel) (q5.below hI.bel) (T5.below hI.bel) (HV.out.below hI.bel) HLT.out HND.out hR hC hlenO)) (fun vd7 _=>?_);refine sRd ?_;refine sRc (fun wS hI Gk hG=>by go_simp;exact ck hG (zGh _ _ R R bn _ _ bsu _ _ _ (HUR.out.below hI.bel) (q5.below hI.bel) (T5.below hI.bel) (HV.out.below hI.bel) HLT.out HND.out hR hR hlenO)) (fun vd14 _=>?_);refine sRd ?_;refine sRc (fun wS hI Gk hG=>by go_simp;exact ck hG (zGh _ _ R R bn _ _ bsv _ _ _ (HVR.out.below hI.bel) (q5.below hI.bel) (T5.below hI.bel) (HV.out.below hI.bel) HLT.out HND.out hR hR hlenO)) (fun vd21 _=>?_);refine sRc (fun wS hI hd21 Gk hG=>by go_simp;exact ck hG (zQI hB.bsm hd21 hlenO HLT.out HOX.out.2.2 hR)) (fun vd22 _=>?_);refine sRc (fun wS hI hd7 hd14 hd22 Gk hG=>?_) (fun vd23 _=>?_)
 ·obtain⟨xo,xc,rfl,hd7⟩:=hd7
  obtain⟨yo,yc,rfl,hd14⟩:=hd14;obtain⟨zo,zc,rfl,hd22⟩:=hd22;go_simp;exact⟨hG _ _ ⟨xo,xc,yo,yc,zo,zc,rfl,hd7,hd14,hd22⟩,zA _ _⟩
 refine sRe ?_;intro w9 hbw9 hd7 hd14 hd21 hd22 hd23;obtain⟨xo,xc,yo,yc,zo,zc,rfl,h7,h14,h22⟩:zVI R C (os.map fun i=>yL C (y.s i)) (os.map fun i=>yL R (y.t i)) (genM R R fun a b=>y.i (os.getD b 0) a) w9 vd23:=hd23;have br:=br.below hbw9;have hB9:=nx hBr hbw9;have H7:=xgv h7;have H14:=xgv h14;have H22:=xgv h22;obtain⟨⟨r0,r1,r2,r3,r4,r5,r6,r7,r8⟩,⟨f0,f1,f2,f3,f4,f5,f6,f7,f8⟩⟩:=br.all9;clear h7 h14 h22 hd7 hd14 hd21 hd22 g1 g2 g3 n1 k1 k2 k3;go_wp2;have hxr:=br.lext9 dE (.int .i64 R) (.int .i64 C) (.slice xo R xc) (.int .i64 R) (.int .i64 R) (.slice yo R yc) (.int .i64 R) (.int .i64 R) (.slice zo R zc);have offr:∀{v:Value} {M:List (List Int)},zBl w9 v M->zBl _ v M:=fun h=>h.off br dE dE (fun b hb=>zUH w9 (w.heap.size+1) b _ _ _ _ _ _ _ _ _ hb) hxr
 refine bodyPost_ret (results_cell_row rfl _ _ (w.heap.size+1) _ _ _ _ rfl (br.put9 _ _ _ _ _ _ _ _ _) Tryz.underlying108 rfl (by rw[Tryz.sizeHe];rfl)) rfl ⟨_,y,Lp,rfl,HJY.out,by rw[HOSE.out];exact hlenO,by rw[HOSE.out];exact⟨_,_,_,rfl,offr H7.out,offr H14.out,offr H22.out⟩,zWr hB9 oM _ _ _ _ _ _ _ _ _⟩
structure zEn(R C r:Nat)(c:Nat->Nat)(A H U V:Nat->Nat->Int):Prop where
 hnf:Hnf C R r c H
 mul:∀a,a<R->∀b,b<C->H a b=qH R fun t=>U a t*A t b
 inv:∀a,a<R->∀b,b<R->qH R (fun t=>U a t*V t b)=idf a b
 back:∀a,a<R->∀b,b<C->A a b=qH R fun t=>V a t*H t b
theorem zEn.sp(h:zEn R C r c A H U V):zJI R C H A:=⟨V,h.back⟩
theorem zMH{σ:Nat->Nat}(f:Nat->Int)(hlt:∀k,k<n->σ k<n)(hinj:∀a b,a<n->b<n->σ a=σ b->a=b)(hsur:∀t,t<n->∃k,k<n/\σ k=t):qH n f=qH n fun k=>f (σ k):=by
 have h1:qH n f=qH n fun t=>qH n fun k=>if σ k=t then f t else 0:=zL fun t ht=>by
  obtain⟨k,hk,e⟩:=hsur t ht;rw[zBB (c:=k) hk (fun i hi hne=>if_neg fun e2=>hne (hinj i k hi hk (e2.trans e.symm))),if_pos e]
 rw[h1,zBe];refine zL fun k hk=>?_
 rw[zBB (c:=σ k) (hlt k hk) (fun i hi hne=>if_neg fun e=>hne e.symm),if_pos rfl]
theorem zEn.sp'(h:zEn R C r c A H U V):zJI R C A H:=⟨U,h.mul⟩
theorem zT0{L:List (Nat × Nat)}(hz:∀a,a<n->(∀k,k<L.length->(L.getD k (0,0)).1≠a)->lead C F a<0)(ha:a<n):a∈zLG n C F L:=by
 by_cases hm:a∈L.map (·.1)
 ·exact List.mem_append.2 (.inl hm)
 refine List.mem_append.2 (.inr ?_);simp only[List.mem_filter,List.mem_range,decide_eq_true_eq];refine⟨ha,hz a ha fun k hk e=>hm ?_⟩;rw[<-e,xgb,xga hk];exact List.mem_map.2 ⟨_,zAV hk,rfl⟩
def zGM(n C:Nat)(F:Nat->Nat->Int)(L:List (Nat × Nat))(a:Nat):Nat:=(zLG n C F L).getD a 0
theorem zF3{L:List (Nat × Nat)}(hk:k<L.length):zGM n C F L k=zBs L k:=by
 unfold zGM zLG zBs;rw[xgb,List.getElem?_append_left (by simpa using hk),List.getElem?_map,xga hk,xgb,xga hk];rfl
theorem zRr{L:List (Nat × Nat)}(h1:L.length<=k)(h2:k<(zLG n C F L).length):lead C F (zGM n C F L k)<0:=by
 unfold zGM;have e:(zLG n C F L)[k]?=((List.range n).filter fun i=>decide (lead C F i<0))[k-L.length]?:=by
  unfold zLG;rw[List.getElem?_append_right (by simpa using h1)];simp
 rw[xgb,xga h2];rw[xga h2]at e;have:=xgd e.symm;simp only[List.mem_filter,decide_eq_true_eq]at this;exact this.2
theorem zKc{Ct:Nat}{y:Bst}{L:List (Nat × Nat)}(h:JC R C Ct M0 ⟨A,idf,idf⟩ R g y L)(hred:zFU (fun _ _=>True) L.length (zFp L) (vw (zBs L) y.s))(hlen:(zLG R C y.s L).length=R):
  zEn R C L.length (zFp L) A (fun a b=>y.s (zGM R C y.s L a) b) (fun a b=>y.t (zGM R C y.s L a) b) (fun a b=>y.i (zGM R C y.s L b) a):=by
 obtain⟨l,hl,hy⟩:=h.ops;rw[zHQ]at hy;have hs:y.s=zA9 l A:=by rw[hy]
 have ht:y.t=zA9 l idf:=by rw[hy]
 have hi:y.i=zMe l idf:=by rw[hy]
 have hlok:=h.lok (xgf _);have hz:∀a,a<R->(∀k,k<L.length->(L.getD k (0,0)).1≠a)->lead C y.s a<0:=fun a ha hn=>by
  rw[zFw (h.zero a ha hn)];decide
 have olt:∀a,a<R->zGM R C y.s L a<R:=fun a ha=>by
  unfold zGM;rw[xgb,xga oM];exact zK2 hlok _ (zAV _)
 have oinj:∀a b,a<R->b<R->zGM R C y.s L a=zGM R C y.s L b->a=b:=fun a b ha hb e=>by
  unfold zGM at e;rw[xgb,xga oM,xgb,xga oM]at e;exact(yT (h₀:=by omega) (h₁:=by omega) (zHR hlok)).1 e
 have osur:∀t,t<R->∃a,a<R/\zGM R C y.s L a=t:=fun t ht=>by
  obtain⟨a,ha,e⟩:=qS (zT0 hz ht);refine⟨a,by omega,?_⟩;unfold zGM;rw[xgb,xga ha];exact e
 refine⟨⟨zB h.len (xgf _),⟨h.ech.lt,fun k hk=>?_,fun k hk t ht=>?_,h.ech.inc⟩,fun i j hij hj _=>?_,fun a h1 h2 t ht=>?_⟩,fun a ha b hb=>?_,fun a ha b hb=>?_,?_⟩
 ·show 0<y.s (zGM R C y.s L k) (zFp L k)
  rw[zF3 hk];exact h.ech.pos k hk
 ·show y.s (zGM R C y.s L k) t=0
  rw[zF3 hk];exact h.ech.zero k hk t ht
 ·show 0<=y.s (zGM R C y.s L i) (zFp L j)/\y.s (zGM R C y.s L i) (zFp L j)<y.s (zGM R C y.s L j) (zFp L j)
  rw[zF3 oM,zF3 hj];exact hred i j hij hj trivial
 exact zGv (zRr h1 oM) t ht
 ·show y.s (zGM R C y.s L a) b=qH R fun t=>y.t (zGM R C y.s L a) t*A t b
  rw[ht];conv=>lhs;rw[show y.s (zGM R C y.s L a) b=zA9 l A (zGM R C y.s L a) b from by rw[<-hs]]
  exact zK0 hl A _ (olt a ha) b
 ·show qH R (fun t=>y.t (zGM R C y.s L a) t*y.i (zGM R C y.s L b) t)=idf a b
  rw[ht,hi];have:=zIn hl (P:=idf) (Q:=idf) (C:=R) (fun a ha b hb=>zIX R a ha b hb) _ (olt a ha) _ (olt b hb);unfold dot at this;rw[this];unfold idf;by_cases e:a=b
  ·rw[if_pos e,if_pos (by rw[e])]
  rw[if_neg e,if_neg (fun e2=>e (oinj a b ha hb e2))]
 intro a ha b hb;show A a b=qH R fun t=>y.i (zGM R C y.s L t) a*y.s (zGM R C y.s L t) b
 rw[<-zMH (σ:=zGM R C y.s L) (fun t=>y.i t a*y.s t b) olt oinj osur,hi,hs];exact zEf hl A a ha b
theorem zIB(h:os.length=n):(os.map fun i=>yL C (F i))=genM n C fun a b=>F (os.getD a 0) b:=by
 refine qO (by simp[genM,h]) fun i h1 h2=>?_
 simp only[List.length_map]at h1;simp only[genM,yL,List.getElem_map,List.getElem_range];rw[xgb,xga h1];rfl
theorem zWa:∃n:Nat,n=B32^zSy:=⟨_,rfl⟩
noncomputable def BD:Nat:=zWa.choose
theorem zS5:BD=B32^zSy:=zWa.choose_spec
theorem zJX:BSd BD:=⟨fun z hz=>by rw[zS5]at hz;exact⟨hz⟩⟩
theorem zWd:∃n:Nat,n=2^40:=⟨_,rfl⟩
noncomputable def E40:Nat:=zWd.choose
theorem zF4{D:Nat}(h:a<=32*D):2^a<=B32^D:=by
 rw[show B32=2^32 from rfl,<-jS];exact qE oM h
theorem zRM(n M:Nat)(h:1<=M):leM M n n idf:=fun a _ b _=>by
 unfold idf;split<;>simp<;>omega
theorem zFT.keepZ{Z:Nat->Prop}(h:zFT w base v xs)(ho:qG Z w w')(hz:∀g,v.ownBlock=some g->¬ Z g):zFT w' base v xs:=by
 obtain⟨h1,h2,h3⟩:=id h;refine⟨h1,h2,?_⟩;rcases h3 with h3|⟨g,cap,cur,rfl,k1,k2,k3⟩
 exact .inl h3;exact .inr ⟨g,cap,cur,rfl,k1,(ho.old g (Array.getElem?_eq_some_iff.1 k2).1 (hz g rfl)).trans k2,k3⟩
abbrev tMt:TypeId:=32
theorem zJm(hB:BSd B)(v:Value)(M:List (List Int))(R C:Nat)(w:World)(h:zH2 w v R C M)(hF:zBc R C M)(hR:R<=1000000)(hC:C<=1000000)(hok:okF B R C (ent M))(s1:Sm 1){x0:Bst}(hx0:x0.s=ent M){J J':Nat->Bst->List (Nat × Nat)->Prop}(hE:zUi B R C 0 J J')(hJ:J 0 x0 []):
  Calls Tryz.prog 59 #[v] w fun e w'=>∃v y L,e= .returned v/\J R y L/\zAO w' v L.length C ((L.map (·.1)).map fun i=>yL C (y.s i))/\Below w.heap.size w w':=by
 have h0:=h;obtain⟨A,rfl,h⟩:=h;obtain⟨ao,n,cap,rfl,e2,e3,e4,-⟩:=id h;obtain rfl:R=n:=by rw[<-e2,hF.1]
 have hdv:decide (zBL R C M)=true:=decide_eq_true hF.valid;have HF:=xgv hF;have HOK:=xgv hok;have H0:=xgv h0;have S1:=xgv s1;have HE:=xgv hE;have HJ:=xgv hJ;clear hok h0 hF e2 s1 hE hJ;go_enter Tryz.func59,Tryz.ntmps59;go_upto_region 1 with(fail)
 refine zD ?_;intro W0 hW0;obtain⟨hB0,bx1,br,hs0⟩:=zAd hW0;obtain⟨c1,c2,c3,c4,c5,c6⟩:=bx1.three;clear hW0;go_wp2_with fail
 refine(zF0 _ R C M W0 (H0.out.below hB0)).mono ?_;rintro e w1 ⟨rfl,hb1⟩;rw[hdv];have bx1:=bx1.below hb1;have br:=br.below hb1;have hB1:=nx hB0 hb1;have hs1:=hb1.size;clear c1 c2 c3 c4 c5 c6 hdv;obtain⟨c1,c2,c3,c4,c5,c6⟩:=bx1.three;go_wp2_with fail
 refine(zMF hB.bsm _ M R C w1 (H0.out.below hB1) HF.out hR hC HOK.out S1.out).mono ?_;rintro e w2 ⟨v,rfl,hst,hb2⟩;obtain⟨bw,Ah,Au,Av,rfl,q1,q2,⟨bss,hws,hzs⟩,q3,q4⟩:=hst;have hB2:=nx hB1 hb2;have br:=br.below hb2;have bx1:=bx1.below hb2;have hs2:=hb2.size;clear c1 c2 c3 c4 c5 c6;obtain⟨c1,c2,c3,c4,c5,c6⟩:=bx1.three;go_upto_region 5 with(fail)
 refine zD ?_;intro W3 hW3;obtain⟨hB3',T4,hs3⟩:=qM hW3;have lbw:=q2.lt;have hB3:=nx hB2 hB3';have q2:=q2.below hB3';have br:=br.below hB3';have hws:=hws.below hB3';have q3:=q3.below hB3';have q4:=q4.below hB3';have hgz:∀g,Ah.ownBlock=some g->¬ g∈bss:=fun g hg hm=>hws.rown hws hm hg
 have hrun:zD7 false (fun b=>b∈bss) W3 bw Ah R C 0 x0:=⟨rfl,Au,Av,bss,q2,by rw[hx0];exact hws,q3,q4,fun b hb=>hb⟩;have hnt:¬ w2.heap.size∈bss:=fun hm=>hws.nzb T4 dE dE (.inl hm)
 have hnr:¬ (w.heap.size+1)∈bss:=fun hm=>hws.nzb br dE dE (.inl hm)
 have hzl:∀b,b∈bss->b<W3.heap.size:=fun b hb=>hws.zlt (.inl hb)
 clear hW3 c1 c2 c3 c4 c5 c6;go_wp2_with fail
 refine(zOE hB HE.out hrun HJ.out hR hC oM hzl hgz).mono ?_;rintro e w5 ⟨pv,y,Lp,rfl,hO,hz,hJ,hP⟩;obtain⟨hokx,hL⟩:=HE.out.ok R y Lp hJ;have T4:=hO.blk T4 hnt;have br:=hO.blk br hnr;have hB5:Below w.heap.size w w5:=zEp hB3 (hO.mono (Z':=fun k=>w.heap.size<=k) (fun k _ hk=>by have:=hzs k (.inl hk);omega)) (xgf _) hB3.size;obtain⟨-,Au',Av',bsh,r1,r2,-,-,r5⟩:=hz;have hLl:Lp.length<=R:=hL.len;have hnd:=zJ2 hL;have hlt:∀k,k<Lp.length->zBs Lp k<R:=fun k hk=>(hL.mem k hk).2.1
 obtain⟨po,pcap,rfl,-,-,-⟩:=hP.at_;obtain⟨so,scap,rfl⟩:=r2.shape;have HR2:=xgv r2;have HP:=xgv hP;have HND:=xgv hnd;have HLT:=xgv hlt;have HJ:=xgv hJ;have hs5:=hO.bel.size;have l5:=br.lt;simp only[List.length_map];clear hP hJ hnd hL hokx hrun;have hwr5:∀b,Zn (.slice so R scap) bsh b->¬ b=w2.heap.size:=by rintro b hb rfl;exact HR2.out.nzb T4 dE dE hb
 have hob5:∀g,(Value.slice po (Lp.map (·.1)).length pcap).ownBlock=some g->¬ g=w2.heap.size:=by rintro g hg rfl;exact HP.out.ne T4 dE hg
 have HW5:=xgv hwr5;have HO5:=xgv hob5;have hl4:=T4.lt;obtain⟨lL,hlL⟩:∃n,(Lp.map (·.1)).length=n:=⟨_,rfl⟩;have hlL':Lp.length=lL:=by rw[<-hlL];simp
 rw[hlL]at HP HO5;clear hwr5 hob5 r2 hlL;go_wp2;go_loopw [19] (fun iv wr=>∃(k:Nat) (v:Value),iv= .int .i64 k/\k<=lL/\zDv wr w5.heap.size v C ((Lp.take k).map fun p=>bsh.getD p.1 0) ((Lp.take k).map fun p=>yL C (y.s p.1))/\Blk wr w2.heap.size tMt #[.int .i64 k,.int .i64 C,v]/\qG (fun b=>b=w2.heap.size) w5 wr) (fun iv _=>lL-(intOf iv).toNat)
 case atStart=>exact⟨0,_,rfl,by omega,zDv.nil _ _ _ oM,T4,qG.refl _ _⟩
 clear T4;obtain⟨k,uv,rfl,hk,hx,T4,hO⟩:=hrel;obtain⟨vo,vn,vc,rfl⟩:=hx.shape;have hwr:=HR2.out.keepZ hO HW5.out;have l4:=T4.lt;have hsz:=hO.bel.size;have r1:=hO.blk r1 oM;obtain⟨f1,f2,f3,f4,f5,f6⟩:=T4.three;obtain⟨g1,g2,g3,-,-,-⟩:=r1.three;have br:=hO.blk br oM;have HPW:=xgv (HP.out.keepZ hO HO5.out);by_cases hlt:k<lL
 ·have hlt':k<Lp.length:=by omega
  obtain⟨i,hi⟩:∃i,(Lp.map (·.1))[k]?=some i:=⟨_,xga (by simpa using hlt')⟩;obtain⟨qq,hqq⟩:∃qq,Lp[k]?=some qq:=⟨_,xga hlt'⟩;have hqi:qq.1=i:=by rw[List.getElem?_map,hqq]at hi;simpa using hi
  have hir:zBs Lp k=i:=by unfold zBs;rw[xgb,hqq];exact hqi
  have hin:i<R:=by rw[<-hir];exact HLT.out k hlt'
  obtain⟨og,oc,eo,lo,q0⟩:=HPW.out.cell hi;injection eo with eo1 eo2 eo3
  subst eo1;obtain⟨g,bi,eg,lg,hbi,-,o1,-⟩:=qA.at_ hwr (i:=i) (by rw[hwr.len];exact hin);subst eg;have hrow:=hwr.rowAt hin hbi;have htk:∀{α:Type} (f:Nat × Nat->α),(Lp.take (k+1)).map f=(Lp.take k).map f++ [f qq]:=fun f=>by
   rw[yY,zBY,hqq];rfl
  have HTB:=xgv (htk fun p=>bsh.getD p.1 0);have HTM:=xgv (htk fun p=>yL C (y.s p.1));have HQI:=xgv hqi;have hgd:bsh.getD qq.1 0=bi:=by rw[hqi,xgb,hbi];rfl
  have hne:∀b∈(Lp.take k).map (fun p=>bsh.getD p.1 0),b≠bi:=by
   intro b hb' hbe;subst hbe;obtain⟨p,hp,he⟩:=List.mem_map.1 hb';obtain⟨t,ht1,ht2⟩:=qS hp;rw[zCo]at ht2;have ht3:t<k:=by simp at ht1;omega
   have hrt:zBs Lp t=p.1:=by unfold zBs;rw[xgb,xga oM,ht2];rfl
   have hpl:p.1<bsh.length:=by rw[hwr.len,<-hrt];exact HLT.out t oM
   have hil:i<bsh.length:=by rw[hwr.len];exact hin
   have e1:bsh.getD p.1 0=bsh[p.1]:=by rw[xgb,xga hpl];rfl
   have e2:bsh[i]=b:=(xge.1 hbi).2;have hji:p.1=i:=(yT (h₀:=hpl) (h₁:=hil) (qA.nodup hwr)).1 (by rw[<-e1,e2];exact he);have h1:(Lp.map (·.1))[t]'(by simp;omega)=p.1:=by simp[ht2]
   have h2:(Lp.map (·.1))[k]'(by simp;omega)=i:=(xge.1 hi).2;have:=(yT (h₀:=(by simp;omega:t<(Lp.map (·.1)).length)) (h₁:=(by simp;omega:k<(Lp.map (·.1)).length)) HND.out).1 (by rw[h1,h2,hji]);omega
  have hlr:=zJr bi C;have hblen:((Lp.take k).map fun p=>bsh.getD p.1 0).length=k:=by simp;omega
  have HNE:=xgv hne;have HGD:=xgv hgd;clear htk hne hgd hi hbi hqi hir hqq eo2 eo3;go_upto_region 8 with(fail)
  refine yX 10 [pcD 9 [] (SlR bi C)] ?_;refine sRd ?_;refine sRc (fun wS hI Gk hG=>?_) (fun vb9 _=>?_)
  ·go_simp
   exact⟨hG _ _ ⟨_,rfl,qQ _ _ _⟩,(zA _ _).alloc (xgf _) _⟩
  refine sRe ?_;intro w7 hbw7 hb9;obtain⟨gs,rfl,hsl⟩:SlR bi C w7 vb9:=hb9;have hx7:=hx.below hbw7;have T47:=T4.below hbw7;have hr7:=hrow.below hbw7;have hO7:=hO.trans (qG.of (fun b=>b=w2.heap.size) hbw7);have l47:=T47.lt;have hs7:=hbw7.size;clear o1 f3 q0 f1 f2 f4 f5 f6;go_wp2_with (at_builtin;refine zYT rfl _ _ rfl w5.heap.size (.slice vo vn vc) C _ _ rfl hx7 gs 1 bi _ rfl hsl hr7 (qC _ _) HNE.out (by rw[hblen];omega) oM ?_;intro v' w' hown hgr hlx;obtain⟨so',pn,pc',rfl⟩:=hown.shape;have T4n:=(hgr.block _ l47 (fun e=>by have:=(hx7.ownb _ e.symm).1;omega)).trans T47;obtain⟨f1,f2,f3,f4,f5,f6⟩:=Blk.three (t:=32) T4n)
  have T4n:Blk w' w2.heap.size tMt #[.int .i64 k,.int .i64 C,.slice vo vn vc]:=T4n;have hO8:qG (fun b=>b=w2.heap.size) w5 w':=⟨hO7.bel.grown hgr (zE _) (fun _ _=>zE _),hO7.lext.trans hlx,fun b hb hn=>(hgr.block b oM (fun e=>by have:=(hx7.ownb _ e.symm).1;omega)).trans (hO7.old b hb hn)⟩;go_roundw
  case rel=>
   have hX:zDv (w'.setCell ⟨w2.heap.size,2,none⟩ (.slice so' pn pc')) w5.heap.size (.slice so' pn pc') C ((Lp.take (k+1)).map fun p=>bsh.getD p.1 0) ((Lp.take (k+1)).map fun p=>yL C (y.s p.1)):=by
    rw[HTB.out,HTM.out,HGD.out,HQI.out];exact hown.off T4n dE oM (fun b hb=>zW _ _ _ b _ hb) (T4n.lext dE _ _)
   have T4m:Blk (w'.setCell ⟨w2.heap.size,2,none⟩ (.slice so' pn pc')) w2.heap.size tMt #[.int .i64 k,.int .i64 C,.slice so' pn pc']:=by simpa using T4n.set_ 2 (.slice so' pn pc')
   refine⟨k+1,.slice so' pn pc',by simp,by omega,hX.off T4m dE oM (fun b hb=>zW _ _ _ b _ hb) (T4m.lext dE _ _),by simpa using T4m.set_ 0 (.int .i64 ((k:Int)+1)),?_⟩;exact⟨yJ (yJ hO8.bel (zE _) _ _) (zE _) _ _,(hO8.lext.trans (T4n.lext dE _ _)).trans (T4m.lext dE _ _),fun b hb hn=>(zW _ _ _ _ _ hn).trans ((zW _ _ _ _ _ hn).trans (hO8.old b hb hn))⟩
  case measure=>simp[intOf];omega
 obtain rfl:k=lL:=by omega
 obtain⟨e1,e2,e3,e4,e5,e6⟩:=br.three;have htk:Lp.take k=Lp:=jE oM;rw[htk]at hx;have hBr:Below w.heap.size w wr:=zEp hB5 (hO.mono (Z':=fun k=>w.heap.size<=k) (fun k _ hk=>by omega)) (xgf _) hB5.size;go_wp2;refine zAl (r:=w.heap.size+1) rfl rfl rfl (br.put3 _ _ _) ⟨_,y,Lp,rfl,HJ.out,?_,yJ (yJ (yJ hBr oM _ _) oM _ _) oM _ _⟩;rw[hlL'];have h2:=qA.rows (hx.off br dE oM (fun b hbn=>zAe _ _ b _ _ _ hbn) (br.lext3 dE (.int .i64 k) (.int .i64 C) (.slice vo vn vc))).rows0;refine⟨_,rfl,?_⟩;rw[List.map_map];exact h2
structure zIN(R C r:Nat)(c:Nat->Nat)(A H:Nat->Nat->Int):Prop where
 hnf:Hnf C R r c H
 sp:zJI R C H A
 sp':zJI R C A H
theorem zEn.lat(h:zEn R C r c A H U V):zIN R C r c A H:=⟨h.hnf,h.sp,h.sp'⟩
theorem zLq(hM1:1<=M0)(v:Value)(M:List (List Int))(R C:Nat)(w:World)(h:zH2 w v R C M)(hF:zBc R C M)(hR:R<=6)(hC:C<=1000000)(hg:gk (es R) M0<BD)(hA:leM M0 R C (ent M)):
  Calls Tryz.prog 59 #[v] w fun e w'=>∃v r c H U V,e= .returned v/\zEn R C r c (ent M) H U V/\zAO w' v r C (genM r C H)/\Below w.heap.size w w':=by
 have hB:=zJX;have hB0:leB M0 R C 0 ⟨ent M,idf,idf⟩:=⟨hA,fun _ _ b hb=>by omega,fun _ _ b hb=>by omega⟩;have hE:=zQ2 (r:=R) (Cs:=C) (x0:=⟨ent M,idf,idf⟩) (Ct:=0) hR hM1 (zJ (zEL hM1 (zUp R R)) hg) RkB.all;have hMB:M0<BD:=zJ (zJK _ hM1) hg;refine(zJm hB v M R C w h hF oM hC (hA.ok hMB) (zFm (z:=1) dE).sm (x0:=⟨ent M,idf,idf⟩) rfl hE (zOH hB0 hM1)).mono ?_;rintro ee w' ⟨v,y,L,rfl,hJ,hv,hb⟩;obtain⟨hJ,hr⟩:=JH.fin hJ;have hl:=zK1 (hJ.lok (xgf _)) (fun a ha hn=>by rw[zFw (hJ.zero a ha hn)];decide);have hf:=zKc hJ hr hl;refine⟨v,L.length,_,_,_,_,rfl,hf,?_,hb⟩;rw[zIB (n:=L.length) sI]at hv;have e:genM L.length C (fun a b=>y.s ((L.map (·.1)).getD a 0) b)=genM L.length C fun a b=>y.s (zGM R C y.s L a) b:=zAM fun i hi j _=>by
  rw[zF3 hi];unfold zBs;rw[xgb,List.getElem?_map,xgb,xga hi];rfl
 rw[e]at hv;exact hv
def zFW(C:Nat)(F:Nat->Nat->Int)(i:Nat):Prop:=
 lead C F i<0∨∃c:Nat,lead C F i=(c:Int)/\(∀k,k<i->0<=lead C F k/\lead C F k<c)/\0<F i c/\∀k,k<i->0<=F k c/\F k c<F i c
def zSz(R C:Int)(M:List (List Int)):Prop:=zBL R C M/\∀i,i<M.length->zFW C.toNat (ent M) i
theorem zFW.split{C:Nat}{F:Nat->Nat->Int}:∀n,(∀i,i<n->zFW C F i)->∃r,r<=n/\(∀k,k<r->0<=lead C F k)/\∀k,r<=k->k<n->lead C F k<0
 |0,_=>⟨0,xgf _,fun k hk=>by omega,fun k _ hk=>by omega⟩
 | n+1,h=>by
  obtain⟨r,h1,h2,h3⟩:=zFW.split n fun i hi=>h i oM
  rcases h n oM with hl|⟨c,hc,hk,-⟩
  ·refine⟨r,by omega,h2,fun k hk1 hk2=>?_⟩
   by_cases e:k=n
   ·rw[e];exact hl
   exact h3 k hk1 oM
  refine⟨n+1,xgf _,fun k hk2=>?_,fun k _ _=>by omega⟩;by_cases e:k=n
  ·rw[e,hc];omega
  exact(hk k oM).1
theorem zM6(h:∀i,i<n->zFW C F i):∃r c,Hnf C n r c F:=by
 obtain⟨r,h1,h2,h3⟩:=zFW.split n h;have hr:∀k,k<r->∃c:Nat,lead C F k=(c:Int)/\(∀j,j<k->0<=lead C F j/\lead C F j<c)/\0<F k c/\∀j,j<k->0<=F j c/\F j c<F k c:=fun k hk=>by
  rcases h k oM with hl|hl
  have:=h2 k hk;omega;exact hl
 refine⟨r,fun k=>(lead C F k).toNat,h1,⟨fun k hk=>zRc (by have:=h2 k hk;omega),fun k hk=>?_,fun k hk t ht=>?_,fun k l hkl hl=>?_⟩,fun i j hij hj _=>?_,fun a h1 h2 t ht=>zGv (h3 a h1 h2) t ht⟩
 ·obtain⟨c,e,-,hp,-⟩:=hr k hk
  simp only[e,Int.toNat_natCast];exact hp
 ·obtain⟨c,e,e2,e3,hz⟩:=zGw (C:=C) (F:=F) (i:=k) (by have:=h2 k hk;omega)
  simp only[e,Int.toNat_natCast]at ht;exact hz t ht
 ·obtain⟨c,e,e2,-⟩:=hr l hl
  have:=e2 k hkl;simp only[e,Int.toNat_natCast];omega
 obtain⟨c,e,-,-,e2⟩:=hr j hj;simp only[e,Int.toNat_natCast];exact e2 i hij
theorem Hnf.lead_lo(h:Hnf C n r c F)(hk:k<r):lead C F k=(c k:Int):=h.ech.lead hk
theorem Hnf.lead_hi(h:Hnf C n r c F)(h1:r<=k)(h2:k<n):lead C F k=-1:=zFw (h.zero k h1 h2)
theorem zNl(h:Hnf C n r c F)(hi:i<n):zFW C F i:=by
 rcases zG i r with hr|hr
 ·refine .inr ⟨c i,h.lead_lo hr,fun k hk=>?_,h.ech.pos i hr,fun k hk=>h.red k i hk hr trivial⟩
  rw[h.lead_lo (k:=k) oM];have:=h.ech.inc k i hk hr;omega
 exact .inl (by rw[h.lead_hi hr hi];decide)
theorem zFW.congr(hi:i<n)(e:∀a,a<n->∀b,b<C->G a b=F a b)(h:zFW C F i):zFW C G i:=by
 have hl:∀k,k<n->lead C G k=lead C F k:=fun k hk=>zPP (e k hk)
 rcases h with h|⟨c,h1,h2,h3,h4⟩
 exact .inl (by rw[hl i hi];exact h);have hc:=(zDY h1).1;refine .inr ⟨c,by rw[hl i hi];exact h1,fun k hk=>by rw[hl k oM];exact h2 k hk,by rw[e i hi c hc];exact h3,fun k hk=>by rw[e i hi c hc,e k oM c hc];exact h4 k hk⟩
theorem zRT:zSz R C (genM R C F)↔∃r c,Hnf C R r c F:=by
 have hlen:(genM R C F).length=R:=(jJ R C F).1;constructor
 ·rintro⟨-,h⟩
  rw[hlen]at h;exact zM6 fun i hi=>(h i hi).congr (F:=ent (genM R C F)) hi fun a ha b hb=>(jM ha hb).symm
 rintro⟨r,c,h⟩;refine⟨(jJ R C F).valid,fun i hi=>?_⟩;rw[hlen]at hi;exact(zNl h hi).congr hi fun a ha b hb=>jM ha hb
theorem zH6(σ τ:Nat->Nat)(hσ:∀a,a<n->σ a<n)(hτ:∀a,a<n->τ a<n):det n A∣det n fun a b=>A (σ a) (τ b):=by
 refine zFb (R:=n) (C:=n) (F:=A) (fun σ τ hσ hτ hi hj=>?_) σ τ hσ hτ;have idn:∀σ:Nat->Nat,(∀a,a<n->σ a<n)->Inc n σ->∀a,a<n->σ a=a:=fun σ hσ hi a ha=>by
  have h1:=hi.le a ha;have h2:∀j,a+j<n->σ a+j<=σ (a+j):=fun j=>by
   induction j with
   |zero=>intro _;exact xgf _
   |succ j ih=>
    intro hj;have h3:=hi (a+j) oM;have h4:=ih oM;have h5:a+(j+1)=a+j+1:=rfl;rw[h5];omega
  have h3:=h2 (n-1-a) oM;have h4:=hσ (a+(n-1-a)) oM;omega
 have he:det n (fun a b=>A (σ a) (τ b))=det n A:=zAm fun a ha b hb=>by rw[idn σ hσ hi a ha,idn τ hτ hj b hb]
 rw[he];exact zAL _
def zZA(n:Nat)(F:Nat->Nat->Int)(j:Nat):Int:=qH j fun t=>sg1 t*(F 0 t*det n (mnr F 0 t))
def yC(m C:Nat)(A:Nat->Nat->Int)(x:Nat->Int):Prop:=∃y:Nat->Int,∀b,b<C->x b=qH m fun a=>y a*A a b
def zMh(R C:Nat)(A:Nat->Nat->Int)(x:Nat->Int):Prop:=∀b,b<C->(qH R fun a=>x a*A a b)=0
def zXq(R C:Nat)(A:Nat->Nat->Int)(x:Nat->Int):Prop:=∀y:Nat->Int,(∀a,a<R->(qH C fun b=>A a b*y b)=0)->(qH C fun b=>x b*y b)=0
structure HB(C m:Nat)(G:Nat->Nat->Int)(L:(Nat->Int)->Prop):Prop where
 hnf:∃c,Hnf C m m c G
 iff:∀x,L x↔yC m C G x
theorem yC.row(A:Nat->Nat->Int)(ha:a<m):yC m C A (A a):=
 ⟨fun t=>if t=a then 1 else 0,fun b _=>by rw[zBB ha (fun i _ hne=>by dsimp only;rw[if_neg hne,yB])];dsimp only;rw[if_pos rfl,zAD]⟩
theorem yC.sub{x:Nat->Int}(h:∀a,a<m->yC m' C G (A a))(hx:yC m C A x):yC m' C G x:=by
 obtain⟨y,hy⟩:=hx;have hY:∀a,∃Y:Nat->Int,a<m->∀b,b<C->A a b=qH m' fun t=>Y t*G t b:=fun a=>by
  by_cases ha:a<m
  ·obtain⟨Y,h⟩:=h a ha
   exact⟨Y,fun _=>h⟩
  exact⟨fun _=>0,fun h=>absurd h ha⟩
 refine⟨fun t=>qH m fun a=>y a*(hY a).choose t,fun b hb=>?_⟩;rw[hy b hb];have e:(qH m fun a=>y a*A a b)=qH m fun a=>qH m' fun t=>y a*(hY a).choose t*G t b:=zL fun a ha=>by
  rw[(hY a).choose_spec ha b hb,<-jH];exact zL fun t _=>by rw[qI]
 rw[e,zBe];exact zL fun t _=>zCw _ _ _
theorem yC.congr{B:Nat->Nat->Int}(h:∀a,a<m->∀b,b<C->A a b=B a b)(x:Nat->Int):yC m C A x↔yC m C B x:=by
 constructor<;>(rintro⟨y,hy⟩;refine⟨y,fun b hb=>(hy b hb).trans (zL fun a ha=>by rw[h a ha b hb])⟩)
theorem zMh.congr{B:Nat->Nat->Int}(h:∀a,a<R->∀b,b<C->A a b=B a b)(x:Nat->Int):zMh R C A x↔zMh R C B x:=by
 constructor<;>(intro hx b hb;rw[<-hx b hb];exact zL fun a ha=>by rw[h a ha b hb])
def zS2(m:Nat)(G:Nat->Nat->Int):Nat->Nat->Int:=fun a b=>if a<m then G a b else 0
theorem zRt(h:Hnf C m m c G)(hm:m<=n):Hnf C n m c (zS2 m G):=by
 have e:∀a,a<m->∀b,zS2 m G a b=G a b:=fun a ha b=>if_pos ha
 exact⟨hm,⟨h.ech.lt,fun k hk=>by rw[e k hk];exact h.ech.pos k hk,fun k hk t ht=>by rw[e k hk];exact h.ech.zero k hk t ht,h.ech.inc⟩,
  fun i j h1 h2 h3=>by rw[e i oM,e j h2];exact h.red i j h1 h2 h3,fun a h1 _ t _=>if_neg oM⟩
theorem zOR(hm:m<=n)(h:∀a,a<m'->yC m C G (G' a)):zJI n C (zS2 m G) (zS2 m' G'):=by
 have hY:∀a,∃Y:Nat->Int,a<m'->∀b,b<C->G' a b=qH m fun t=>Y t*G t b:=fun a=>by
  by_cases ha:a<m'
  ·obtain⟨Y,h⟩:=h a ha
   exact⟨Y,fun _=>h⟩
  exact⟨fun _=>0,fun h=>absurd h ha⟩
 refine⟨fun a t=>if a<m' then(hY a).choose t else 0,fun a _ b hb=>?_⟩;rw[zEh hm (fun t h1 _=>by rw[show zS2 m G t b=0 from if_neg oM,zZ])];by_cases ha:a<m'
 ·rw[show zS2 m' G' a b=G' a b from if_pos ha,(hY a).choose_spec ha b hb]
  exact zL fun t ht=>by dsimp only;rw[if_pos ha,show zS2 m G t b=G t b from if_pos ht]
 rw[show zS2 m' G' a b=0 from if_neg ha];exact(zBf fun t _=>by dsimp only;rw[if_neg ha,yB]).symm
theorem HB.eq(h:HB C m G L)(h':HB C m' G' L')(e:∀x,L x↔L' x):m=m'/\∀a,a<m->∀b,b<C->G' a b=G a b:=by
 obtain⟨c,hc⟩:=h.hnf;obtain⟨c',hc'⟩:=h'.hnf;have s1:∀a,a<m'->yC m C G (G' a):=fun a ha=>(h.iff _).1 ((e _).2 ((h'.iff _).2 (yC.row G' ha)))
 have s2:∀a,a<m->yC m' C G' (G a):=fun a ha=>(h'.iff _).1 ((e _).1 ((h.iff _).2 (yC.row G ha)))
 obtain⟨e1,-,e2⟩:=zPF (zRt hc (zC7 m m')) (zRt hc' (Nat.le_add_left m' m)) (zOR (zC7 m m') s1) (zOR (Nat.le_add_left m' m) s2);refine⟨e1,fun a ha b hb=>?_⟩;have:=e2 a oM b hb;rwa[show zS2 m' G' a b=G' a b from if_pos oM,show zS2 m G a b=G a b from if_pos ha]at this
theorem HB.mat(h:HB C m G L)(h':HB C m' G' L')(e:∀x,L x↔L' x):m=m'/\genM m C G=genM m' C G':=by
 obtain⟨rfl,e2⟩:=h.eq h' e;exact⟨rfl,zAM fun a ha b hb=>(e2 a ha b hb).symm⟩
theorem HB.of(h:HB C m G L)(e:∀x,L x↔L' x):HB C m G L':=⟨h.hnf,fun x=>(e x).symm.trans (h.iff x)⟩
theorem zIN.hb(h:zIN R C r c A H):HB C r H (yC R C A):=by
 refine⟨⟨c,xgf _,h.hnf.ech,h.hnf.red,fun a h1 h2=>by omega⟩,fun x=>⟨yC.sub fun a ha=>?_,yC.sub fun a ha=>?_⟩⟩
 ·obtain⟨X,hX⟩:=h.hnf.span h.sp
  exact⟨X a,fun b hb=>hX a ha b hb⟩
 obtain⟨X,hX⟩:=h.sp';exact⟨X a,fun b hb=>hX a (by have:=h.hnf.le;omega) b hb⟩
theorem zSc(hr:r<=R){f:Nat->Int}(h:∀t,t<r->f t=0):qH R f=qH (R-r) fun a=>f (r+a):=by
 obtain⟨d,rfl⟩:=zAU hr;rw[zAT];clear hr;induction d with
 |zero=>exact zBf h
 |succ d ih=>show qH (r+d) f+f (r+d)=_;rw[ih];rfl
theorem zXF{w:Nat->Int}(hd:det r F≠0)(h:∀b,b<r->(qH r fun t=>w t*F t b)=0):∀j,j<r->w j=0:=fun j hj=>by
 have e1:det r (zJH F j fun b=>qH r fun t=>w t*F t b)=0:=zCJ hj fun b hb=>by unfold zJH;rw[if_pos rfl];exact h b hb
 rw[zGY hj,zBB hj (fun t ht hne=>?_),zST]at e1
 ·rcases Int.mul_eq_zero.1 e1 with h0|h0
  ·exact h0
  exact absurd h0 hd
 have:det r (zJH F j (F t))=0:=by
  rcases zG t j with h2|h2
  exact zFq h2 hj fun b=>by unfold zJH;rw[if_pos rfl,if_neg oM]
  exact zFq (c:=j) (d:=t) oM ht fun b=>by unfold zJH;rw[if_pos rfl,if_neg oM]
 rw[this,zZ]
theorem zRS(h:∀a,a<n->∀b,b<n->qH n (fun t=>U a t*V t b)=idf a b):∀a,a<n->∀b,b<n->qH n (fun t=>V a t*U t b)=idf a b:=by
 obtain⟨σ,hσ,hd⟩:=zN6 h;have hV:det n V≠0:=fun h0=>by
  have:=zH6 (A:=V) σ (fun b=>b) hσ fun a ha=>ha
  rw[h0]at this;exact hd (Int.zero_dvd.1 this)
 intro a ha b hb;have:=zXF (w:=fun b=>qH n (fun t=>V a t*U t b)-idf a b) hV (fun b' hb'=>by
  have e1:(qH n fun t=>(qH n (fun s=>V a s*U s t)-idf a t)*V t b')=(qH n fun t=>qH n (fun s=>V a s*U s t)*V t b')+-1*qH n fun t=>idf a t*V t b':=by
   rw[<-jH,<-zBj];exact zL fun t _=>by rw[zDq];omega
  have e2:(qH n fun t=>qH n (fun s=>V a s*U s t)*V t b')=V a b':=by
   have:(qH n fun t=>qH n (fun s=>V a s*U s t)*V t b')=qH n fun t=>qH n fun s=>V a s*(U s t*V t b'):=zL fun t _=>by
    rw[<-zCw];exact zL fun s _=>qI _ _ _
   rw[this,zBe];have:(qH n fun s=>qH n fun t=>V a s*(U s t*V t b'))=qH n fun s=>V a s*idf s b':=zL fun s hs=>by rw[jH,h s hs b' hb']
   rw[this,zBB hb' (fun s _ hne=>by rw[show idf s b'=0 from if_neg hne,zZ]),show idf b' b'=1 from if_pos rfl,zAv]
  have e3:(qH n fun t=>idf a t*V t b')=V a b':=by
   rw[zBB ha (fun s _ hne=>by rw[show idf a s=0 from if_neg (fun e=>hne e.symm),yB]),show idf a a=1 from if_pos rfl,zAD]
  show(qH n fun t=>(qH n (fun s=>V a s*U s t)-idf a t)*V t b')=0;rw[e1,e2,e3];omega) b hb
 omega
def zOz(r:Nat)(U:Nat->Nat->Int):Nat->Nat->Int:=fun a b=>U (r+a) b
theorem zG8(x:Nat->Int)(F:Nat->Nat->Int)(y:Nat->Int):(qH m fun t=>qH n (fun s=>x s*F s t)*y t)=qH n fun s=>x s*qH m fun t=>F s t*y t:=by
 have:(qH m fun t=>qH n (fun s=>x s*F s t)*y t)=qH m fun t=>qH n fun s=>x s*(F s t*y t):=zL fun t _=>by
  rw[<-zCw];exact zL fun s _=>qI _ _ _
 rw[this,zBe];exact zL fun s _=>jH _ _ _
theorem zEn.ker(h:zEn R C r c A H U V)(x:Nat->Int):yC (R-r) R (zOz r U) x↔zMh R C A x:=by
 have hr:=h.hnf.le;constructor
 ·rintro⟨y,hy⟩ b hb
  have e:(qH R fun a=>x a*A a b)=qH R fun a=>qH (R-r) (fun s=>y s*zOz r U s a)*A a b:=zL fun a ha=>by rw[hy a ha]
  rw[e,zG8];refine zBf fun s hs=>?_
  have:=h.mul (r+s) oM b hb;rw[h.hnf.zero (r+s) oM oM b hb]at this;rw[show(qH R fun t=>zOz r U s t*A t b)=0 from this.symm,zZ]
 intro hx;obtain⟨z,hz⟩:∃z:Nat->Int,∀t,z t=qH R fun s=>x s*V s t:=⟨_,fun _=>rfl⟩
 have h0:∀b,b<C->(qH r fun t=>z t*H t b)=0:=fun b hb=>by
  rw[<-zEh hr (fun t h1 h2=>by rw[h.hnf.zero t h1 h2 b hb,zZ])];have e:(qH R fun t=>z t*H t b)=qH R fun t=>qH R (fun s=>x s*V s t)*H t b:=zL fun t _=>by rw[hz]
  rw[e,zG8,<-hx b hb];exact zL fun s hs=>by rw[h.back s hs b hb]
 have hz0:∀t,t<r->z t=0:=by
  refine fun t ht=>zM fun hne=>?_
  obtain⟨u,hu,hu1,hu2⟩:=zH7 ⟨t,ht,hne⟩;have e1:=zKU h.hnf.ech hu hu2;rw[h0 _ (h.hnf.ech.lt u hu)]at e1;rcases Int.mul_eq_zero.1 e1.symm with h3|h3
  exact hu1 h3;have:=h.hnf.ech.pos u hu;omega
 refine⟨fun a=>z (r+a),fun b hb=>?_⟩;have e:(qH R fun t=>z t*U t b)=x b:=by
  have e1:(qH R fun t=>z t*U t b)=qH R fun t=>qH R (fun s=>x s*V s t)*U t b:=zL fun t _=>by rw[hz]
  rw[e1,zG8,zBB hb (fun s hs hne=>by rw[zRS h.inv s hs b hb,show idf s b=0 from if_neg hne,zZ]),zRS h.inv b hb b hb,show idf b b=1 from if_pos rfl,zAv]
 rw[<-e,zSc hr (fun t ht=>by rw[hz0 t ht,yB])];rfl
def zQW(P:Prop)(w:World)(e:Ending)(w':World):Prop:=∃b,e= .returned (.bool b)/\(b=true↔P)/\Below w.heap.size w w'
theorem zQW.no(h:¬ P)(hb:Below w.heap.size w w'):zQW P w (.returned (.bool false)) w':=⟨false,rfl,⟨nofun,fun hp=>absurd hp h⟩,hb⟩
theorem zQW.yes(h:P)(hb:Below w.heap.size w w'):zQW P w (.returned (.bool true)) w':=⟨true,rfl,⟨fun _=>h,fun _=>rfl⟩,hb⟩
theorem zBc.row_eq(h:zBc R C M){zs:List Int}(hz:M[i]?=some zs):zs=yL C (ent M i):=by
 have hl:=h.2 zs (xgd hz);refine qO (by simp[yL,hl]) fun j h1 h2=>?_
 simp only[yL,List.getElem_map,List.getElem_range];rw[zGG hz (xga h1)]
structure zYd(C:Nat)(F:Nat->Nat->Int)(i:Nat)(last:Int)(en:Bool):Prop where
 ok:∀k,k<i->zFW C F k
 ended:en=true↔∃k,k<i/\lead C F k<0
 lst:en=false->∀c:Int,0<=c->(last<c↔∀k,k<i->lead C F k<c)
def gx(E M:Nat):Nat:=(2*M)^E/2
structure zVK(n C:Nat)(x0:Bst)(c r:Nat)(κ:Nat->Nat)(x:Bst):Prop where
 ops:∃l,jN n l/\x=zCK l x0
 rn:r<=n
 ech:Ech C r κ x.s
 lt:∀k,k<r->κ k<c
 red:zFU (fun _ _=>True) r κ x.s
 zero:∀a,r<=a->a<n->∀t,t<c->t<C->x.s a t=0
section
variable {n C Ct M0 B:Nat} {x0 x:Bst} {c r:Nat} {κ:Nat->Nat}
structure KI(n C Ct b0:Nat)(x0:Bst)(c r:Nat)(κ:Nat->Nat)(i:Nat)(x:Bst):Prop where
 core:zVK n C x0 c r κ x
 col:∀a,r<a->a<i->x.s a c=0
 same:x.s r c=0->leB b0 n C Ct x
def EBd(n C Ct m:Nat)(X Y:Int)(x:Bst):Prop:=
 leB m n C Ct x∨(0<=Y/\X.natAbs<=m/\Y.natAbs<=m/\leB (2*m*m) n C Ct x)∨(0<=X/\0<=Y/\∃a,1<=a/\leB a n C Ct x/\a<=gx 5 m/\a*(2*X.natAbs*Y.natAbs)<=gx 5 m)
def eE(n:Nat):Nat->Nat
 |0=>1
 |r+1=>eE n r*5^(n-(r+1))*2^r
def eI(n r i:Nat):Nat:=eE n r*5^(i-(r+1))
def KO(n C Ct M0:Nat)(x0:Bst)(c r:Nat)(κ:Nat->Nat)(x:Bst):Prop:=zVK n C x0 c r κ x/\leB (gx (eE n r) M0) n C Ct x
def KR(n C Ct M0:Nat)(x0:Bst)(c r:Nat)(κ:Nat->Nat)(i:Nat)(x:Bst):Prop:=KI n C Ct (gx (eE n r) M0) x0 c r κ i x/\leB (gx (eI n r i) M0) n C Ct x
def KEu(n C Ct M0:Nat)(x0:Bst)(c r:Nat)(κ:Nat->Nat)(i:Nat)(x:Bst):Prop:=KI n C Ct (gx (eE n r) M0) x0 c r κ i x/\EBd n C Ct (gx (eI n r i) M0) (x.s r c) (x.s i c) x
structure KD(n C Ct M0:Nat)(x0:Bst)(c r:Nat)(κ:Nat->Nat)(i:Nat)(x:Bst):Prop where
 core:zVK n C x0 c r κ x
 pos:0<x.s r c
 col:∀a,r<a->a<n->x.s a c=0
 red:∀a,a<i->0<=x.s a c/\x.s a c<x.s r c
 bd:leB (gx (eI n r n*2^i) M0) n C Ct x
end

end Go.Proofs.YtkidaebmhlijlaaGreat
