/- Joined. -/
import Derived.Test.YtkidaebmhlijlaaGreatD10
import Derived.Test.YtkidaebmhlijlaaGreatD18
import Derived.Test.YtkidaebmhlijlaaGreatD21
set_option linter.unusedVariables false
set_option linter.unusedSimpArgs false
set_option linter.unusedSectionVars false
set_option maxHeartbeats 16000000
set_option maxRecDepth 100000
variable{ops:Array Go.Oper}{cs:Array Go.Value}{M:List (List Int)}{bs os xs:List Nat}{B C R a b base g i k lo m n r:Nat}{c:Nat->Nat}{F H U V:Nat->Nat->Int}{o:Go.Oper}{T t:Go.TypeId}{A c0 c1 c10 c11 c12 c13 c14 c2 c3 c4 c5 c6 c7 c8 c9 d v:Go.Value}{w w':Go.World}
namespace Go.Proofs.YtkidaebmhlijlaaGreat
open Go.RowKit
def StH(lo R C:Nat)(F:Nat->Nat->Int):World->Value->Prop:=fun w v=>∃bs,Wri w v R C bs F/\∀b,Zn v bs b->lo<=b
def StM(lo R C:Nat)(F:Nat->Nat->Int):World->Value->Prop:=fun w v=>∃o c,v= .agg #[niq R,niq C,.slice o R c]/\StH lo R C F w (.slice o R c)
def zZK(R:Nat):World->Value->Prop:=fun w v=>zFN w v R
def StB(lo R C:Nat)(F:Nat->Nat->Int):World->Value->Prop:=fun w v=>∃Ah Au Av,v= .agg #[Ah,Au,Av]/\StH lo R C F w Ah/\zFN w Au R/\zFN w Av R
def StP(lo R C:Nat)(F:Nat->Nat->Int):World->Value->Prop:=fun w v=>∃g Ah Au Av,v=ptq g 0/\lo<=g/\Blk w g tHW #[Ah,Au,Av]/\StH lo R C F w Ah/\zFN w Au R/\zFN w Av R
theorem StH.below(h:StH lo R C F w v)(hb:BWq w w'):StH lo R C F w' v:=by
 obtain⟨bs,h1,h2⟩:=h;exact⟨bs,h1.below hb,h2⟩
theorem zQZ(lo R C:Nat)(F:Nat->Nat->Int):zAK (StM lo R C F):=fun _ _ _ x ⟨o,c,h1,h2⟩=>⟨o,c,h1,h2.below x⟩
theorem zQY(lo R C:Nat)(F:Nat->Nat->Int):zAK (StH lo R C F):=fun _ _ _ x h=>h.below x
theorem zQV(R:Nat):zAK (zZK R):=fun _ _ _ x h=>zFN.below h x
theorem zQX(lo R C:Nat)(F:Nat->Nat->Int):zAK (StB lo R C F):=fun _ _ _ x ⟨a,b,c,h1,h2,h3,h4⟩=>⟨a,b,c,h1,h2.below x,h3.below x,h4.below x⟩
theorem zKk(lo R C:Nat)(F:Nat->Nat->Int):zAK (StP lo R C F):=fun _ _ _ x ⟨g,a,b,c,h1,h0,h5,h2,h3,h4⟩=>⟨g,a,b,c,h1,h0,h5.below x,h2.below x,h3.below x,h4.below x⟩
theorem zLp(w:World)(n:Nat)(hn:n<=1000000):zFN (w.alloc (.cells (madeCells (Value.slice none 0 0).cells (n*1)) tR)) (.slice (some ⟨w.heap.size,0,none⟩) n n) n:=by
 refine⟨_,_,_,rfl,xgf _,oM,qX _ _ _,fun i hi=>?_⟩;unfold madeCells;rw[Array.getElem?_eq_getElem (by simp;omega)];simp[Value.cells,Nat.mod_one]
theorem zMu(w:World)(n:Nat)(hn:n<=1000000):zFN (w.alloc (.cells (madeCells #[Value.slice none 0 0] n) tR)) (.slice (some ⟨w.heap.size,0,none⟩) n n) n:=by
 have h:=zLp w n hn;rw[zAr]at h;exact h
theorem zW8(hB:BSm B)(v kv:Value)(M:List (List Int))(R C lo:Nat)(w:World)(h:zIw w v R C M)(hF:zBU R C M)(hk:jY w kv 1)(hR:R<=1000000)(hC:C<=1000000)(hok:okF B R C (ent M))(s1:Sm 1)(hlo:lo<=w.heap.size):
  CPq 114 #[v,kv] w fun e w'=>∃v,e= .returned v/\StM lo R C (ent M) w' v/\BWq w w':=by
 refine(zKv v kv M R C 1 w h hF hk hR hC ?_ s1).mono fun e w' hr=>?_
 ·intro r hr z hz
  obtain⟨i,hi,ei⟩:=qW hr;obtain⟨j,hj,ej⟩:=qW hz;have e1:M[i]?=some r:=by rw[xga hi,ei]
  have e2:r[j]?=some z:=by rw[xga hj,ej]
  have e3:=hF.2 r hr;have:=hok i (by rw[<-hF.1];exact hi) j oM;rw[zEJ e1 e2]at this;exact hB.sm _ this
 have hq:genM R C (fun i j=>1*ent M i j)=genM R C (ent M):=zAG fun i _ j _=>jX _
 rw[hq]at hr;obtain⟨v,rfl,⟨o,c,bs,h1,h2,h3⟩,hb⟩:=zEm.within hr;exact⟨v,rfl,⟨o,c,h1,bs,h2,fun b hb=>zB hlo (h3 b hb).1⟩,hb⟩
theorem zNC(hB:BSm B)(v:Value)(M:List (List Int))(R C:Nat)(w:World)(h:zIw w v R C M)(hF:zBU R C M)(hR:R<=1000000)(hC:C<=1000000)(hok:okF B R C (ent M))(s1:Sm 1):
  CPq 99 #[v] w fun e w'=>∃v,e= .returned v/\StP w.heap.size R C (ent M) w' v/\BWq w w':=by
 have h0:=h;obtain⟨A,rfl,h⟩:=h;obtain⟨ao,n,cap,rfl,e2,e3,e4,-⟩:=id h;obtain rfl:R=n:=by rw[<-e2,hF.1]
 have HF:=xgv hF;have HOK:=xgv hok;have H0:=xgv h0;have S1:=xgv s1;clear hok h0 hF e2 s1;go_enter Tryz.func99,Tryz.ntmps99;go_upto_region 1 with(fail)
 refine zD ?_;intro W0 hW0;obtain⟨hB0,bx1,hs0⟩:=qL hW0;obtain⟨c1,c2,c3,c4,c5,c6⟩:=bx1.three;have hl1:=zQZ W0.heap.size R C (ent M);have hl2:=zQY W0.heap.size R C (ent M);have hl3:=zQV R;have hl4:=zQX W0.heap.size R C (ent M);have hl5:=zKk W0.heap.size R C (ent M);have hmk:=fun W=>mkR (R:Int) R rfl oM W
 clear hW0;refine yP 12 [pcI 1 (1),pcD 2 [1] (StM W0.heap.size R C (ent M)),pcD 3 [2] (StH W0.heap.size R C (ent M)),pcD 6 [] (zZK R),pcD 9 [] (zZK R),pcD 10 [3,6,9] (StB W0.heap.size R C (ent M)),pcD 11 [10] (StP W0.heap.size R C (ent M))] ?_;refine sRd ?_;refine sRc (fun wS hI Gk hG=>by go_simp;exact ck hG (zGz 1 _ oM oM)) (fun va1 _=>?_);refine sRc (fun wS hI ha1 Gk hG=>by go_simp;exact ck hG (zW8 hB _ _ M R C W0.heap.size _ ((H0.out.below hB0).below hI.bel) HF.out ha1 hR hC HOK.out S1.out hI.bel.size)) (fun va2 _=>?_);refine sRc (fun wS hI ha2 Gk hG=>?_) (fun va3 _=>?_)
 ·obtain⟨o,c,rfl,h2'⟩:StM W0.heap.size R C (ent M) wS va2:=ha2
  go_simp;exact⟨hG _ _ h2',zA _ _⟩
 refine sRd ?_;refine sRc (fun wS hI Gk hG=>?_) (fun va6 _=>?_)
 ·go_simp
  exact⟨hG _ _ (by first|exact zLp wS R hR|exact zMu wS R hR),(zA _ _).alloc (xgf _) _⟩
 refine sRd ?_;refine sRc (fun wS hI Gk hG=>?_) (fun va9 _=>?_)
 ·go_simp
  exact⟨hG _ _ (by first|exact zLp wS R hR|exact zMu wS R hR),(zA _ _).alloc (xgf _) _⟩
 refine sRc (fun wS hI ha3 ha6 ha9 Gk hG=>?_) (fun va10 _=>?_)
 ·have h3q:StH W0.heap.size R C (ent M) wS va3:=ha3
  have h6q:zFN wS va6 R:=ha6;have h9q:zFN wS va9 R:=ha9;obtain⟨bs3,h3w,h3z⟩:=id h3q;obtain⟨o3,c3,rfl⟩:=h3w.shape;obtain⟨g6,c6,_,rfl,-⟩:=id h6q;obtain⟨g9,c9,_,rfl,-⟩:=id h9q;go_simp;exact⟨hG _ _ ⟨_,_,_,rfl,h3q,h6q,h9q⟩,zA _ _⟩
 refine sRc (fun wS hI ha10 Gk hG=>?_) (fun va11 _=>?_)
 ·obtain⟨Ah,Au,Av,rfl,h3q,h6q,h9q⟩:StB W0.heap.size R C (ent M) wS va10:=ha10
  have hba:=(zA wS.heap.size wS).alloc (xgf _) (.cells #[Ah,Au,Av] tHW);obtain⟨bs3,h3w,h3z⟩:=id h3q;obtain⟨o3,c3,rfl⟩:=h3w.shape;obtain⟨g6,c6,_,rfl,-⟩:=id h6q;obtain⟨g9,c9,_,rfl,-⟩:=id h9q;go_simp;exact hG _ _ ⟨_,_,_,_,rfl,hI.bel.size,qX _ _ _,h3q.below hba,h6q.below hba,h9q.below hba⟩
 refine sRe ?_;intro w2 hbw2 ha1 ha2 ha3 ha6 ha9 ha10 ha11;obtain⟨g,Ah,Au,Av,rfl,g1,g2,g3,g4,g5⟩:StP W0.heap.size R C (ent M) w2 va11:=ha11;obtain⟨bs,k1,k2⟩:=g3;have hsw:=hB0.size;clear c1 c2 c3 c4 c5 c6 hmk ha10 ha9 ha6 ha3 ha2;go_wp2;go_ret;exact⟨_,rfl,⟨g,Ah,Au,Av,rfl,oM,g2,⟨bs,k1,fun b hb=>by have:=k2 b hb;omega⟩,g4,g5⟩,nx hB0 hbw2⟩
structure zD4(w:World)(base:Nat)(A:Value)(C:Nat)(bs:List Nat)(M:List (List Int)):Prop where
 own:w.ownsRow base tR 1 A bs.length (zBP C bs)
 len:M.length=bs.length
 row:∀(k:Nat) (b:Nat) (r:List Int),bs[k]?=some b->M[k]?=some r->r.length=C/\jJ w b r
 nodup:bs.Nodup
 cb:C<=1099511627776
theorem zD4.rows0(h:zD4 w base A C bs M):qC w 0 A C bs M:=by
 refine⟨⟨h.own.1,?_⟩,h.len,fun k b r h1 h2=>⟨zE _,h.row k b r h1 h2⟩,h.nodup,h.cb⟩;rcases h.own.2 with h3|⟨g,cap,cur,rfl,k1,k2⟩
 exact .inl h3;exact .inr ⟨g,cap,cur,rfl,zE _,k2⟩
theorem zD4.below(h:zD4 w base A C bs M)(hb:BWq w w'):zD4 w' base A C bs M:=
 ⟨h.own.kept (row:=none) ⟨hb.os,hb.tape,hb.output,hb.size,fun k hk _=>hb.block k hk⟩ (by cases hv:A.ownBlock<;>simp),h.len,fun k b r h1 h2=>by
  obtain⟨e2,e3⟩:=h.row k b r h1 h2;exact⟨e2,e3.below hb⟩,h.nodup,h.cb⟩
theorem zD4.nil(w:World)(base C:Nat)(hC:C<=1099511627776):zD4 w base (.slice none 0 0) C [] []:=⟨⟨rfl,.inl ⟨rfl,rfl⟩⟩,rfl,fun k b r h1=>by simp at h1,by simp,hC⟩
theorem zD4.ownb(h:zD4 w base A C bs M):∀g,A.ownBlock=some g->base<=g/\g<w.heap.size:=zDK h.own
theorem zD4.mono(h:zD4 w base A C bs M)(ha:a<=base):zD4 w a A C bs M:=by
 refine⟨⟨h.own.1,?_⟩,h.len,h.row,h.nodup,h.cb⟩;rcases h.own.2 with h3|⟨g,cap,cur,rfl,k1,k2⟩
 exact .inl h3;exact .inr ⟨g,cap,cur,rfl,oM,k2⟩
theorem zD4.off(h:zD4 w base A C bs M)(hg:Blk w g T cs)(hT:¬ T=tI)(hgb:g<base)(ho:∀k,k≠g->w'.heap[k]?=w.heap[k]?)(hx:zBw w w'):zD4 w' base A C bs M:=by
 refine⟨⟨h.own.1,?_⟩,h.len,fun k b r h1 h2=>?_,h.nodup,h.cb⟩
 ·rcases h.own.2 with h3|⟨g',cap,cur,rfl,k1,k2,k3⟩
  ·exact .inl h3
  exact .inr ⟨g',cap,cur,rfl,k1,(ho g' oM).trans k2,k3⟩
 obtain⟨e2,e3⟩:=h.row k b r h1 h2;exact⟨e2,e3.old (ho b (fun e=>zMO hg e3 hT e.symm)) hx⟩
theorem zD4.shape(h:zD4 w base A C bs M):∃o n c,A= .slice o n c:=by
 rcases h.own.2 with⟨rfl,-⟩|⟨g,cap,cur,rfl,-⟩
 exact⟨_,_,_,rfl⟩;exact⟨_,_,_,rfl⟩
theorem zZ2{w:World}{ops:Array Oper}{rest:List Oper}{a:Act}{Q:Exit->Act->World->Prop}(hgd:o.guard=none)(s x:Operand)
  (ho:o.op= .call {callee:=.builtin .append,args:=#[s,x],argTypes:=#[30,30]})
  (base:Nat) (v:Value) (C:Nat) (bs:List Nat) (M:List (List Int)) (hs:a.eval s=v) (hown:zD4 w base v C bs M) (b c nb:Nat) (r:List Int) (hx:a.eval x=slq b 1 c)
  (hb:Blk w b tR #[slq nb C C]) (hr:jJ w nb r) (hrl:r.length=C) (hfr:∀g∈bs,g≠nb)
  (hlen:bs.length+1<=1099511627776) (hbase:base<=w.heap.size)
  (h:∀v' w',zD4 w' base v' C (bs++ [nb]) (M++ [r])->w.grownBy w' v.ownBlock->zBw w w'->wpList Tryz.prog ops Q rest (a.put o.dst v') w'):wpList Tryz.prog ops Q (o::rest) a w:=by
 obtain⟨i0,hi,hz0,hz1,hz2⟩:=info_parts zDc;have c0:=hb.cell 0;refine wpList_append_own w hgd s x 30 ho base tR i0 _ 1 24 zAx hi hz0 hz1 hz2 rfl oM v bs.length _ hs hown.own ⟨b,0,none⟩ 1 c [slq nb C C] hx rfl ?_ ?_ (by simp[maxLen];omega) oM hbase ?_
 ·intro j u hj
  rw[zAL];match j with
  |0=>simp at hj;subst hj;exact c0
  |j+1=>simp at hj
 ·intro u hu
  simp at hu;subst hu;rfl
 intro v' w' k1 k2 _;have hx:=zDu hown.own dE k2;have hkeep:∀g q,jJ w g q->jJ w' g q:=fun g q hq=>hq.old (k2.block g hq.lt (zG2 hown.own hq)) hx
 refine h v' w' ⟨?_,by simp[hown.len],?_,?_,hown.cb⟩ k2 hx
 ·have:zBP C (bs++ [nb])=zBP C bs++ [slq nb C C]:=by simp[zBP]
  rw[this];simpa using k1
 ·intro k g q hg hq
  rcases zG k bs.length with hlt|hge
  ·rw[List.getElem?_append_left hlt]at hg
   rw[List.getElem?_append_left (by rw[hown.len];exact hlt)]at hq;obtain⟨f2,f3⟩:=hown.row k g q hg hq;exact⟨f2,hkeep _ _ f3⟩
  rw[List.getElem?_append_right hge]at hg;rw[List.getElem?_append_right (by rw[hown.len];exact hge),hown.len]at hq;have hk0:k-bs.length=0:=by
   have:=(xge.1 hg).1;simp at this;omega
  rw[hk0]at hg hq;simp at hg hq;subst hg;subst hq;exact⟨hrl,hkeep _ _ hr⟩
 rw[yT];refine⟨hown.nodup,by simp,fun x hx y hy=>?_⟩;simp at hy;subst hy;exact hfr x hx
theorem zFq.cell(h:zFq w base v xs){x:Nat}(hk:xs[k]?=some x):∃g cap,v= .slice (some ⟨g,0,none⟩) xs.length cap/\g<w.heap.size/\w.cell? ⟨g,k,none⟩=some (.int .i64 x):=by
 rcases h.2.2 with⟨rfl,h0⟩|⟨g,cap,cur,rfl,hg,hh,hn,hc,hs,ht⟩
 ·rw[qE h0]at hk
  simp at hk
 refine⟨g,cap,rfl,(Array.getElem?_eq_some_iff.1 hh).1,?_⟩;rw[cell_of_row w g k cur tNn _ hh];have hk':(xs.map fun n=>Value.int .i64 (n:Nat))[k]?=some (.int .i64 (x:Nat)):=by simp[hk]
 rw[<-ht,List.getElem?_take]at hk';split at hk';simpa using hk';cases hk'
abbrev SlR(b C:Nat):World->Value->Prop:=fun w v=>∃g,v=slq g 1 1/\Blk w g tR #[slq b C C]
theorem zKj(b C:Nat):zAK (SlR b C):=fun _ _ _ x ⟨g,h1,h2⟩=>⟨g,h1,h2.below x⟩
theorem zOU(Ah ov:Value)(n Cs nb ob base:Nat)(bss os:List Nat)(F:Nat->Nat->Int)(w:World)(hw:Wri w Ah n Cs bss F)(hnb:Blk w nb 3 #[.int .i64 n])(hob:Blk w ob 96 #[ov])(hov:zFq w base ov os)
  (hos:∀x∈os,x<n) (hnd:os.Nodup) (hn:n<=1000000) (hCs:Cs<=1000000) (hlen:os.length<=n):
  CPq 150 #[Ah,.int .i64 Cs,.pointer (some ⟨nb,0,none⟩),.pointer (some ⟨ob,0,none⟩)] w fun e w'=>∃v bs',e= .returned (.agg #[.int .i64 n,.int .i64 Cs,v])∧
   zD4 w' w.heap.size v Cs bs' (os.map fun i=>qZ Cs (F i))/\(∀b,b∈bs'->b∈bss)/\BWq w w':=by
 have n0:=hnb.cell 0;have o0:=hob.cell 0;obtain⟨so,sn,scap,rfl,s1,-⟩:=id (qC.rows hw);have e2:n=sn:=by rw[<-s1];simp[genM]
 subst e2;obtain⟨ao,ocap,rfl,-,-,-⟩:=hov.at_;have lnb:=hnb.lt;have lob:=hob.lt;have HW:=xgv hw;have HOV:=xgv hov;have HOS:=xgv hos;have HND:=xgv hnd;clear s1 hw hov hos hnd;go_enter Tryz.func150,Tryz.ntmps150;go_upto_region 2 with(fail)
 refine zD ?_;intro W0 hW0;obtain⟨hB0,T6,T7,hs0⟩:=zAj hW0;have o0:=jL o0 hB0;clear hW0 n0;go_wp2;go_loopw [15] (fun iv wr=>∃(k:Nat) (v:Value),iv= .int .i64 k/\k<=os.length/\zD4 wr (w.heap.size+2) v Cs ((os.take k).map fun i=>bss.getD i 0) ((os.take k).map fun i=>qZ Cs (F i))∧
  Blk wr w.heap.size 32 #[.int .i64 0,.int .i64 0,.slice none 0 0]/\Blk wr (w.heap.size+1) 32 #[.int .i64 n,.int .i64 Cs,v]/\BWq w wr) (fun iv _=>os.length-(intOf iv).toNat)
 case atStart=>exact⟨0,_,rfl,oM,zD4.nil _ _ _ oM,T6,T7,hB0⟩
 clear T6 T7 hB0 hs0;obtain⟨k,uv,rfl,hk,hx,T6,T7,hb⟩:=hrel;obtain⟨vo,vn,vc,rfl⟩:=hx.shape;have l7:=T7.lt;by_cases hlt:k<os.length
 ·obtain⟨i,hi⟩:∃i,os[k]?=some i:=⟨_,xga hlt⟩
  have hin:i<n:=HOS.out i (xgd hi);obtain⟨og,oc,eo,lo,q0⟩:=(HOV.out.below hb).cell hi;injection eo with eo1 eo2 eo3
  subst eo1;obtain⟨g,bi,eg,lg,hbi,-,o1,-⟩:=qC.at_ (HW.out.below hb) (i:=i) (by rw[(HW.out.below hb).len];exact hin);subst eg;have hrow:=(HW.out.below hb).rowAt hin hbi;obtain⟨-,-,f3,-,-,-⟩:=T7.three;have htk:∀{α:Type} (f:Nat->α),(os.take (k+1)).map f=(os.take k).map f++ [f i]:=fun f=>by
   rw[jD,zBe,hi];rfl
  have HTB:=xgv (htk fun i=>bss.getD i 0);have HTM:=xgv (htk fun i=>qZ Cs (F i));have hgd:bss.getD i 0=bi:=by rw[xgb,hbi];rfl
  have hne:∀b∈(os.take k).map (fun i=>bss.getD i 0),b≠bi:=by
   intro b hb' hbe;subst hbe;obtain⟨j,hj,he⟩:=List.mem_map.1 hb';have hjn:j<bss.length:=by rw[HW.out.len];exact HOS.out j (List.mem_of_mem_take hj)
   have hil:i<bss.length:=by rw[HW.out.len];exact hin
   have e1:bss.getD j 0=bss[j]:=by rw[xgb,xga hjn];rfl
   have e2:bss[i]=b:=(xge.1 hbi).2;have hji:j=i:=by
    have:=(yZ (h₀:=hjn) (h₁:=hil) (qC.nodup HW.out)).1 (by rw[<-e1,e2];exact he);exact this
   subst hji;obtain⟨t,ht1,ht2⟩:=qW hj;rw[zC1]at ht2;have ht3:t<k:=by simp at ht1;omega
   have:=(yZ (h₀:=(by omega:t<os.length)) (h₁:=hlt) HND.out).1 (by rw[ht2];exact(xge.1 hi).2.symm);omega
  have hlr:=zKj bi Cs;have hblen:((os.take k).map fun i=>bss.getD i 0).length=k:=by simp;omega
  have HNE:=xgv hne;have HGD:=xgv hgd;clear htk hne hgd hi hbi;go_upto_region 5 with(fail)
  refine yP 7 [pcD 6 [] (SlR bi Cs)] ?_;refine sRd ?_;refine sRc (fun wS hI Gk hG=>?_) (fun vb6 _=>?_)
  ·go_simp
   exact⟨hG _ _ ⟨_,rfl,qX _ _ _⟩,(zA _ _).alloc (xgf _) _⟩
  refine sRe ?_;intro w5 hbw5 hb6;obtain⟨gs,rfl,hsl⟩:SlR bi Cs w5 vb6:=hb6;have hx5:=hx.below hbw5;have T75:=T7.below hbw5;have T65:=T6.below hbw5;have hr5:=hrow.below hbw5;have hb5:=nx hb hbw5;have l75:=T75.lt;clear o1 f3 q0;go_wp2_with (at_builtin;refine zZ2 rfl _ _ rfl (w.heap.size+2) (.slice vo vn vc) Cs _ _ rfl hx5 gs 1 bi _ rfl hsl hr5 (qA _ _) HNE.out (by rw[hblen];omega) oM ?_;intro v' w' hown hgr hlx;obtain⟨po,pn,pc',rfl⟩:=hown.shape;have T7n:=(hgr.block _ l75 (fun e=>by have:=(hx5.ownb _ e.symm).1;omega)).trans T75;have T6n:=(hgr.block _ oM (fun e=>by have:=(hx5.ownb _ e.symm).1;omega)).trans T65;obtain⟨f1,f2,f3,f4,f5,f6⟩:=Blk.three (t:=32) T7n)
  go_roundw
  case rel=>
   have T7n:Blk w' (w.heap.size+1) 32 #[.int .i64 n,.int .i64 Cs,.slice vo vn vc]:=T7n;have hX:zD4 (w'.setCell ⟨w.heap.size+1,2,none⟩ (.slice po pn pc')) (w.heap.size+2) (.slice po pn pc') Cs ((os.take (k+1)).map fun i=>bss.getD i 0) ((os.take (k+1)).map fun i=>qZ Cs (F i)):=by
    rw[HTB.out,HTM.out,HGD.out];exact hown.off T7n dE oM (fun b hb=>zY _ _ _ b _ hb) (T7n.lext dE _ _)
   refine⟨k+1,by simp,oM,.slice po pn pc',by simpa using hX,?_,?_,?_⟩;exact(zY _ _ _ _ _ oM).trans T6n
   ·have:=T7n.set_ 2 (.slice po pn pc')
    simpa using this
   exact yJ (hb5.grown hgr oM (fun g hg=>by have:=(hx5.ownb g hg).1;omega)) oM _ _
  case measure=>exact meq
 obtain rfl:k=os.length:=oM;obtain⟨f1,f2,f3,f4,f5,f6⟩:=T7.three;obtain⟨e1,e2,e3,e4,e5,e6⟩:=T6.three;have l6:=T6.lt;rw[jA]at hx;go_wp2;refine zAZ (r:=w.heap.size) rfl rfl rfl (T6.put3 _ _ _) ⟨.slice vo vn vc,_,rfl,(hx.off T6 dE oM (fun b hbn=>zAf _ _ b _ _ _ hbn) (T6.lext3 dE _ _ _)).mono oM,?_,?_⟩
 ·intro b hb'
  obtain⟨j,hj,rfl⟩:=List.mem_map.1 hb';have hjn:j<bss.length:=by rw[HW.out.len];exact HOS.out j hj
  rw[xgb,xga hjn];exact zAd hjn
 exact yJ (yJ (yJ hb oM _ _) oM _ _) oM _ _
structure AS where
 op:Nat
 slot:Nat
 m:MS
structure RX(W:World)(T0:Array Value)(vs:List VS)(ms:List MS)(al_:List AS)(L:Array Bool)(T:Array Value)(w:World):Prop where
 g:RG W T0 vs ms L T w
 wf:∀a∈al_,a.m∈ms/\∃s∈vs,s.op=a.op/\s.slot=a.slot
 al:∀a∈al_,L[a.op]?=some true->L[a.m.op]?=some true/\∃o c,T[a.m.slot]?=some (.agg #[niq a.m.R,niq a.m.C,.slice o a.m.R c])/\T[a.slot]?=some (.slice o a.m.R c)
section
variable {W:World} {T0:Array Value} {vs:List VS} {ms:List MS} {al_:List AS} {L:Array Bool} {T:Array Value} {w w':World}
theorem RX.start(hwf:zPy T0.size vs ms=true)(hv:∀s∈vs,zAK s.P)(ha:∀a∈al_,a.m∈ms/\∃s∈vs,s.op=a.op/\s.slot=a.slot):RX W T0 vs ms al_ (Array.replicate n false) T0 W.drew:=
 ⟨RG.start hwf hv,ha,fun a _ h=>by
  rw[Array.getElem?_replicate]at h;split at h<;>simp at h⟩
theorem RX.value(h:RX W T0 vs ms al_ L T w)(s:VS)(hs:s∈vs)(hk:s.op=k)(hP:s.P w v)(hn:∀a∈al_,a.op≠k):RX W T0 vs ms al_ (L.setIfInBounds k true) (T.setIfInBounds s.slot v) w:=by
 obtain⟨p1,p2,p3,p4,p5,p6,p7⟩:=h.g.parts;refine⟨h.g.value s hs hk hP,h.wf,fun a ha hl=>?_⟩;subst hk;obtain⟨e1,t,ht,e2,e3⟩:=h.wf a ha;have hl':L[a.op]?=some true:=jT hl (fun e=>hn a ha e.symm);obtain⟨q1,o,c,q2,q3⟩:=h.al a ha hl';have n1:s.slot≠a.m.slot:=(p5 s hs _ e1).1;have n2:s.slot≠a.slot:=by
  rw[<-e3];intro e;have:=yI p1 hs ht e;subst this;exact hn a ha e2.symm
 refine⟨?_,o,c,by rw[xgc n1];exact q2,by rw[xgc n2];exact q3⟩;rw[xgc (p5 s hs _ e1).2];exact q1
theorem RX.y(h:RX W T0 vs ms al_ L T w){s:VS}(hs:s∈vs)(hP:s.P w v)(hn:∀a∈al_,a.op≠k)(hk:s.op=k:=by rfl):RX W T0 vs ms al_ (L.setIfInBounds k true) (T.setIfInBounds s.slot v) w:=h.value s hs hk hP hn
theorem RX.alias(h:RX W T0 vs ms al_ L T w)(a:AS)(ha:a∈al_)(s:VS)(hs:s∈vs)(hso:s.op=a.op)(hss:s.slot=a.slot)(hP:s.P w v)(hm:L[a.m.op]?=some true)(hdup:∀b∈al_,b.op=a.op->b=a)
  {o:Option Addr} {c:Nat} (h1:T[a.m.slot]?=some (.agg #[niq a.m.R,niq a.m.C,.slice o a.m.R c])) (h2:v= .slice o a.m.R c):RX W T0 vs ms al_ (L.setIfInBounds a.op true) (T.setIfInBounds s.slot v) w:=by
 obtain⟨p1,p2,p3,p4,p5,p6,p7⟩:=h.g.parts;refine⟨h.g.value s hs hso hP,h.wf,fun b hb hl=>?_⟩;obtain⟨e1,t,ht,e2,e3⟩:=h.wf b hb;have nm:s.slot≠b.m.slot:=(p5 s hs _ e1).1;have no:s.op≠b.m.op:=(p5 s hs _ e1).2;by_cases hba:b=a
 ·subst hba
  refine⟨by rw[xgc (by rw[<-hso];exact no)];exact hm,o,c,by rw[xgc nm];exact h1,?_⟩;rw[<-hss,Array.getElem?_setIfInBounds_self_of_lt (by rw[h.g.size];exact p6 _ hs),h2]
 have hne:b.op≠a.op:=fun e=>hba (hdup b hb e)
 obtain⟨q1,o',c',q2,q3⟩:=h.al b hb (jT hl (qD hne));have n2:s.slot≠b.slot:=by
  rw[<-e3];intro e;have:=yI p1 hs ht e;subst this;exact hne (e2.symm.trans hso)
 exact⟨by rw[xgc (by rw[<-hso];exact no)];exact q1,o',c',by rw[xgc nm];exact q2,by rw[xgc n2];exact q3⟩
theorem RX.mat(h:RX W T0 vs ms al_ L T w)(hcl:zCl ops L)(hL:L[k]?=some false)(m:MS)(hm:m∈ms)(hk:m.op=k)(hb:BWq w w')(hw:zGs m.R m.C m.F w.heap.size w'.heap.size w' v)
  (hlt:(ms.all fun m'=>!decide (k<m'.op)||zIt ops 9 m'.op k)=true):RX W T0 vs ms al_ (L.setIfInBounds k true) (T.setIfInBounds m.slot v) w':=by
 obtain⟨p1,p2,p3,p4,p5,p6,p7⟩:=h.g.parts;refine⟨h.g.mat hcl hL m hm hk hb hw hlt,h.wf,fun a ha hl=>?_⟩;subst hk;obtain⟨e1,t,ht,e2,e3⟩:=h.wf a ha;have no:m.op≠a.op:=by rw[<-e2];exact fun e=>(p5 t ht m hm).2 e.symm
 have ns:m.slot≠a.slot:=by rw[<-e3];exact fun e=>(p5 t ht m hm).1 e.symm
 obtain⟨q1,o,c,q2,q3⟩:=h.al a ha (jT hl no);have hne:m≠a.m:=fun e=>by
  rw[<-e,hL]at q1;cases q1
 have n1:m.slot≠a.m.slot:=fun e=>hne (yI p3 hm e1 e)
 have n2:m.op≠a.m.op:=fun e=>hne (yI p4 hm e1 e)
 exact⟨by rw[xgc n2];exact q1,o,c,by rw[xgc n1];exact q2,by rw[xgc ns];exact q3⟩
end
def RXS(W:World)(T0:Array Value)(vs:List VS)(ms:List MS)(al_:List AS)(q:Nat)(st:Array Value->World->World)(L:Array Bool)(T:Array Value)(w:World):Prop:=
 ∃w0,RX W T0 vs ms al_ L T w0/\(L[q]?≠some true->w=w0)/\(L[q]?=some true->w=st T w0)
section
variable {W:World} {T0:Array Value} {vs:List VS} {ms:List MS} {al_:List AS} {L:Array Bool} {T:Array Value} {w w':World} {q:Nat} {st:Array Value->World->World}
theorem RXS.start(h:RX W T0 vs ms al_ (Array.replicate n false) T0 W.drew):RXS W T0 vs ms al_ q st (Array.replicate n false) T0 W.drew:=
 ⟨_,h,fun _=>rfl,fun hh=>by
  rw[Array.getElem?_replicate]at hh;split at hh<;>simp at hh⟩
theorem RX.mark(h:RX W T0 vs ms al_ L T w)(hq:∀s∈vs,s.op≠q)(hm:∀m∈ms,m.op≠q):RX W T0 vs ms al_ (L.setIfInBounds q true) T w:=by
 obtain⟨bot,top,g1,g2⟩:=h.g.gh;have um:∀m∈ms,(L.setIfInBounds q true)[m.op]?=some true->L[m.op]?=some true:=fun m hm' hl=>jT hl (qD (hm m hm'))
 refine⟨⟨h.g.wf,h.g.lv,h.g.size,h.g.keep,h.g.bel,fun s hs hl=>h.g.val s hs (jT hl (qD (hq s hs))),bot,top,fun m hm' hl=>g1 m hm' (um m hm' hl),fun m hm' m' hm2 hlt l1 l2=>g2 m hm' m' hm2 hlt (um m hm' l1) (um m' hm2 l2)⟩,h.wf,fun a ha hl=>?_⟩;obtain⟨e1,t,ht,e2,e3⟩:=h.wf a ha;obtain⟨q1,q2⟩:=h.al a ha (jT hl (by rw[<-e2];exact qD (hq t ht)));exact⟨by rw[xgc (qD (hm _ e1))];exact q1,q2⟩
theorem zAF.liftX{P:Program}{Q:Exit->Act->World->Prop}{ds:List Deferred}{o:Oper}(hq:zIt ops 5 q i=true)(hne:i≠q)
  (h:zAF P ops Q ds (RX W T0 vs ms al_) i o):zAF P ops Q ds (RXS W T0 vs ms al_ q st) i o:=by
 intro L T w hL hd hcl hI K hK;obtain⟨w0,h0,h1,h2⟩:=hI;have hLq:L[q]?≠some true:=fun hh=>by
  have:=zDv hcl hq hh;rw[hL]at this;cases this
 obtain rfl:=h1 hLq;exact h L T w hL @hd hcl h0 K (fun T' w' h'=>hK T' w' ⟨w',h',fun _=>rfl,fun hh=>absurd (jT hh hne) hLq⟩)
theorem RXS.step{T':Array Value}(h:RXS W T0 vs ms al_ q st L T w)(hx:∀w0,RX W T0 vs ms al_ L T w0->RX W T0 vs ms al_ (L.setIfInBounds k true) T' w0)(hne:k≠q)(hst:∀w,st T' w=st T w):RXS W T0 vs ms al_ q st (L.setIfInBounds k true) T' w:=by
 obtain⟨w0,h0,h1,h2⟩:=h;exact⟨w0,hx w0 h0,fun hn=>h1 fun hh=>hn (zB7 hh),fun hh=>(h2 (jT hh hne)).trans (hst w0).symm⟩
theorem RXS.store(h:RX W T0 vs ms al_ L T w)(hL:L[q]?=some false)(hq:∀s∈vs,s.op≠q)(hm:∀m∈ms,m.op≠q)(hw:w'=st T w):RXS W T0 vs ms al_ q st (L.setIfInBounds q true) T w':=
 ⟨w,h.mark hq hm,fun hn=>absurd (Array.getElem?_setIfInBounds_self_of_lt (Array.getElem?_eq_some_iff.1 hL).1) hn,fun _=>hw⟩
theorem RXS.here(h:RXS W T0 vs ms al_ q st L T w)(hL:L[q]?=some false):RX W T0 vs ms al_ L T w:=by
 obtain⟨w0,h0,h1,-⟩:=h;obtain rfl:=h1 (by rw[hL];simp);exact h0
end
theorem RG.five{W:World}{T0:Array Value}{vs:List VS}{L:Array Bool}{T:Array Value}{w:World}{k1 k2 k3 k4 k5 s1 s2 s3 s4 s5 R C Cu Cw:Nat}{F1 F2 F3 F4 F5:Nat->Nat->Int}
  (h:RG W T0 vs [⟨k1,s1,R,C,F1⟩,⟨k2,s2,R,Cu,F2⟩,⟨k3,s3,R,Cu,F3⟩,⟨k4,s4,C,Cw,F4⟩,⟨k5,s5,C,Cw,F5⟩] L T w) (o1:k1<k2) (o2:k2<k3) (o3:k3<k4) (o4:k4<k5)
  (l1:L[k1]?=some true) (l2:L[k2]?=some true) (l3:L[k3]?=some true) (l4:L[k4]?=some true) (l5:L[k5]?=some true):
  ∃so sc uo uc vo vc wo wc xo xc,T[s1]?=some (.agg #[niq R,niq C,.slice so R sc])/\T[s2]?=some (.agg #[niq R,niq Cu,.slice uo R uc])/\T[s3]?=some (.agg #[niq R,niq Cu,.slice vo R vc])∧
   T[s4]?=some (.agg #[niq C,niq Cw,.slice wo C wc])/\T[s5]?=some (.agg #[niq C,niq Cw,.slice xo C xc])∧
   zME W.heap.size R C Cu Cw ⟨F1,F2,F3,F4,F5⟩ w (.agg #[niq R,niq C,.slice so R sc,niq R,niq Cu,.slice uo R uc,niq R,niq Cu,.slice vo R vc,niq C,niq Cw,.slice wo C wc,niq C,niq Cw,.slice xo C xc]):=by
 obtain⟨bot,top,g1,g2⟩:=h.gh;have M1:(⟨k1,s1,R,C,F1⟩:MS)∈ [(⟨k1,s1,R,C,F1⟩:MS),⟨k2,s2,R,Cu,F2⟩,⟨k3,s3,R,Cu,F3⟩,⟨k4,s4,C,Cw,F4⟩,⟨k5,s5,C,Cw,F5⟩]:=by simp
 have M2:(⟨k2,s2,R,Cu,F2⟩:MS)∈ [(⟨k1,s1,R,C,F1⟩:MS),⟨k2,s2,R,Cu,F2⟩,⟨k3,s3,R,Cu,F3⟩,⟨k4,s4,C,Cw,F4⟩,⟨k5,s5,C,Cw,F5⟩]:=by simp
 have M3:(⟨k3,s3,R,Cu,F3⟩:MS)∈ [(⟨k1,s1,R,C,F1⟩:MS),⟨k2,s2,R,Cu,F2⟩,⟨k3,s3,R,Cu,F3⟩,⟨k4,s4,C,Cw,F4⟩,⟨k5,s5,C,Cw,F5⟩]:=by simp
 have M4:(⟨k4,s4,C,Cw,F4⟩:MS)∈ [(⟨k1,s1,R,C,F1⟩:MS),⟨k2,s2,R,Cu,F2⟩,⟨k3,s3,R,Cu,F3⟩,⟨k4,s4,C,Cw,F4⟩,⟨k5,s5,C,Cw,F5⟩]:=by simp
 have M5:(⟨k5,s5,C,Cw,F5⟩:MS)∈ [(⟨k1,s1,R,C,F1⟩:MS),⟨k2,s2,R,Cu,F2⟩,⟨k3,s3,R,Cu,F3⟩,⟨k4,s4,C,Cw,F4⟩,⟨k5,s5,C,Cw,F5⟩]:=by simp
 obtain⟨a1,a2,_,a3,so,sc,bS,rfl,a5,a6⟩:=g1 _ M1 l1;obtain⟨b1,b2,_,b3,uo,uc,bU,rfl,b5,b6⟩:=g1 _ M2 l2;obtain⟨c1,c2,_,c3,vo,vc,bV,rfl,c5,c6⟩:=g1 _ M3 l3;obtain⟨d1,d2,_,d3,wo,wc,bW,rfl,d5,d6⟩:=g1 _ M4 l4;obtain⟨e1,e2,_,e3,xo,xc,bX,rfl,e5,e6⟩:=g1 _ M5 l5;have r12:=g2 _ M1 _ M2 o1 l1 l2;have r13:=g2 _ M1 _ M3 (by dsimp only;omega) l1 l3;have r14:=g2 _ M1 _ M4 (by dsimp only;omega) l1 l4;have r15:=g2 _ M1 _ M5 (by dsimp only;omega) l1 l5;have r23:=g2 _ M2 _ M3 (by dsimp only;omega) l2 l3;have r24:=g2 _ M2 _ M4 (by dsimp only;omega) l2 l4;have r25:=g2 _ M2 _ M5 (by dsimp only;omega) l2 l5;have r34:=g2 _ M3 _ M4 (by dsimp only;omega) l3 l4;have r35:=g2 _ M3 _ M5 (by dsimp only;omega) l3 l5;have r45:=g2 _ M4 _ M5 (by dsimp only;omega) l4 l5;refine⟨so,sc,uo,uc,vo,vc,wo,wc,xo,xc,a3,b3,c3,d3,e3,⟨so,sc,uo,uc,vo,vc,wo,wc,xo,xc,bS,bU,bV,bW,bX,rfl,a5,b5,c5,d5,e5,?_,zCv a6 b6 r12,zCv a6 c6 r13,zCv a6 d6 r14,zCv a6 e6 r15,zCv b6 c6 r23,zCv b6 d6 r24,zCv b6 e6 r25,zCv c6 d6 r34,zCv c6 e6 r35,zCv d6 e6 r45⟩⟩;rintro b (hb|hb|hb|hb|hb);exact zB a1 (a6 b hb).1;exact zB b1 (b6 b hb).1;exact zB c1 (c6 b hb).1;exact zB d1 (d6 b hb).1;exact zB e1 (e6 b hb).1
theorem Blk.all15(h:Blk w g t #[c0,c1,c2,c3,c4,c5,c6,c7,c8,c9,c10,c11,c12,c13,c14]):
  (w.cell? ⟨g,0,none⟩=some c0/\w.cell? ⟨g,1,none⟩=some c1/\w.cell? ⟨g,2,none⟩=some c2/\w.cell? ⟨g,3,none⟩=some c3/\w.cell? ⟨g,4,none⟩=some c4/\w.cell? ⟨g,5,none⟩=some c5/\w.cell? ⟨g,6,none⟩=some c6/\w.cell? ⟨g,7,none⟩=some c7/\w.cell? ⟨g,8,none⟩=some c8/\w.cell? ⟨g,9,none⟩=some c9/\w.cell? ⟨g,10,none⟩=some c10/\w.cell? ⟨g,11,none⟩=some c11/\w.cell? ⟨g,12,none⟩=some c12/\w.cell? ⟨g,13,none⟩=some c13/\w.cell? ⟨g,14,none⟩=some c14)/\(w.frozen? ⟨g,0,none⟩=false/\w.frozen? ⟨g,1,none⟩=false/\w.frozen? ⟨g,2,none⟩=false/\w.frozen? ⟨g,3,none⟩=false/\w.frozen? ⟨g,4,none⟩=false/\w.frozen? ⟨g,5,none⟩=false/\w.frozen? ⟨g,6,none⟩=false/\w.frozen? ⟨g,7,none⟩=false/\w.frozen? ⟨g,8,none⟩=false/\w.frozen? ⟨g,9,none⟩=false/\w.frozen? ⟨g,10,none⟩=false/\w.frozen? ⟨g,11,none⟩=false/\w.frozen? ⟨g,12,none⟩=false/\w.frozen? ⟨g,13,none⟩=false/\w.frozen? ⟨g,14,none⟩=false):=
 ⟨⟨h.cell 0,h.cell 1,h.cell 2,h.cell 3,h.cell 4,h.cell 5,h.cell 6,h.cell 7,h.cell 8,h.cell 9,h.cell 10,h.cell 11,h.cell 12,h.cell 13,h.cell 14⟩,⟨h.frozen 0,h.frozen 1,h.frozen 2,h.frozen 3,h.frozen 4,h.frozen 5,h.frozen 6,h.frozen 7,h.frozen 8,h.frozen 9,h.frozen 10,h.frozen 11,h.frozen 12,h.frozen 13,h.frozen 14⟩⟩
theorem Blk.put15(h:Blk w g t #[c0,c1,c2,c3,c4,c5,c6,c7,c8,c9,c10,c11,c12,c13,c14])(x0 x1 x2 x3 x4 x5 x6 x7 x8 x9 x10 x11 x12 x13 x14:Value):Blk (((((((((((((((w.setCell ⟨g,0,none⟩ x0).setCell ⟨g,1,none⟩ x1).setCell ⟨g,2,none⟩ x2).setCell ⟨g,3,none⟩ x3).setCell ⟨g,4,none⟩ x4).setCell ⟨g,5,none⟩ x5).setCell ⟨g,6,none⟩ x6).setCell ⟨g,7,none⟩ x7).setCell ⟨g,8,none⟩ x8).setCell ⟨g,9,none⟩ x9).setCell ⟨g,10,none⟩ x10).setCell ⟨g,11,none⟩ x11).setCell ⟨g,12,none⟩ x12).setCell ⟨g,13,none⟩ x13).setCell ⟨g,14,none⟩ x14) g t #[x0,x1,x2,x3,x4,x5,x6,x7,x8,x9,x10,x11,x12,x13,x14]:=by
 simpa using(((((((((((((((h.set_ 0 x0).set_ 1 x1).set_ 2 x2).set_ 3 x3).set_ 4 x4).set_ 5 x5).set_ 6 x6).set_ 7 x7).set_ 8 x8).set_ 9 x9).set_ 10 x10).set_ 11 x11).set_ 12 x12).set_ 13 x13).set_ 14 x14)
theorem Blk.lext15(h:Blk w g t cs)(hne:t≠tU)(x0 x1 x2 x3 x4 x5 x6 x7 x8 x9 x10 x11 x12 x13 x14:Value):zBw w (((((((((((((((w.setCell ⟨g,0,none⟩ x0).setCell ⟨g,1,none⟩ x1).setCell ⟨g,2,none⟩ x2).setCell ⟨g,3,none⟩ x3).setCell ⟨g,4,none⟩ x4).setCell ⟨g,5,none⟩ x5).setCell ⟨g,6,none⟩ x6).setCell ⟨g,7,none⟩ x7).setCell ⟨g,8,none⟩ x8).setCell ⟨g,9,none⟩ x9).setCell ⟨g,10,none⟩ x10).setCell ⟨g,11,none⟩ x11).setCell ⟨g,12,none⟩ x12).setCell ⟨g,13,none⟩ x13).setCell ⟨g,14,none⟩ x14):=
 (((((((((((((((h.lext hne 0 x0).trans ((h.set_ 0 x0).lext hne 1 x1)).trans (((h.set_ 0 x0).set_ 1 x1).lext hne 2 x2)).trans ((((h.set_ 0 x0).set_ 1 x1).set_ 2 x2).lext hne 3 x3)).trans (((((h.set_ 0 x0).set_ 1 x1).set_ 2 x2).set_ 3 x3).lext hne 4 x4)).trans ((((((h.set_ 0 x0).set_ 1 x1).set_ 2 x2).set_ 3 x3).set_ 4 x4).lext hne 5 x5)).trans (((((((h.set_ 0 x0).set_ 1 x1).set_ 2 x2).set_ 3 x3).set_ 4 x4).set_ 5 x5).lext hne 6 x6)).trans ((((((((h.set_ 0 x0).set_ 1 x1).set_ 2 x2).set_ 3 x3).set_ 4 x4).set_ 5 x5).set_ 6 x6).lext hne 7 x7)).trans (((((((((h.set_ 0 x0).set_ 1 x1).set_ 2 x2).set_ 3 x3).set_ 4 x4).set_ 5 x5).set_ 6 x6).set_ 7 x7).lext hne 8 x8)).trans ((((((((((h.set_ 0 x0).set_ 1 x1).set_ 2 x2).set_ 3 x3).set_ 4 x4).set_ 5 x5).set_ 6 x6).set_ 7 x7).set_ 8 x8).lext hne 9 x9)).trans (((((((((((h.set_ 0 x0).set_ 1 x1).set_ 2 x2).set_ 3 x3).set_ 4 x4).set_ 5 x5).set_ 6 x6).set_ 7 x7).set_ 8 x8).set_ 9 x9).lext hne 10 x10)).trans ((((((((((((h.set_ 0 x0).set_ 1 x1).set_ 2 x2).set_ 3 x3).set_ 4 x4).set_ 5 x5).set_ 6 x6).set_ 7 x7).set_ 8 x8).set_ 9 x9).set_ 10 x10).lext hne 11 x11)).trans (((((((((((((h.set_ 0 x0).set_ 1 x1).set_ 2 x2).set_ 3 x3).set_ 4 x4).set_ 5 x5).set_ 6 x6).set_ 7 x7).set_ 8 x8).set_ 9 x9).set_ 10 x10).set_ 11 x11).lext hne 12 x12)).trans ((((((((((((((h.set_ 0 x0).set_ 1 x1).set_ 2 x2).set_ 3 x3).set_ 4 x4).set_ 5 x5).set_ 6 x6).set_ 7 x7).set_ 8 x8).set_ 9 x9).set_ 10 x10).set_ 11 x11).set_ 12 x12).lext hne 13 x13)).trans (((((((((((((((h.set_ 0 x0).set_ 1 x1).set_ 2 x2).set_ 3 x3).set_ 4 x4).set_ 5 x5).set_ 6 x6).set_ 7 x7).set_ 8 x8).set_ 9 x9).set_ 10 x10).set_ 11 x11).set_ 12 x12).set_ 13 x13).lext hne 14 x14))
theorem zTm(w:World)(g k:Nat)(x0 x1 x2 x3 x4 x5 x6 x7 x8 x9 x10 x11 x12 x13 x14:Value)(hk:k≠g):((((((((((((((((w.setCell ⟨g,0,none⟩ x0).setCell ⟨g,1,none⟩ x1).setCell ⟨g,2,none⟩ x2).setCell ⟨g,3,none⟩ x3).setCell ⟨g,4,none⟩ x4).setCell ⟨g,5,none⟩ x5).setCell ⟨g,6,none⟩ x6).setCell ⟨g,7,none⟩ x7).setCell ⟨g,8,none⟩ x8).setCell ⟨g,9,none⟩ x9).setCell ⟨g,10,none⟩ x10).setCell ⟨g,11,none⟩ x11).setCell ⟨g,12,none⟩ x12).setCell ⟨g,13,none⟩ x13).setCell ⟨g,14,none⟩ x14)).heap[k]?=w.heap[k]?:=
 ((zY _ g 14 k x14 hk).trans ((zY _ g 13 k x13 hk).trans ((zY _ g 12 k x12 hk).trans ((zY _ g 11 k x11 hk).trans ((zY _ g 10 k x10 hk).trans ((zY _ g 9 k x9 hk).trans ((zY _ g 8 k x8 hk).trans ((zY _ g 7 k x7 hk).trans ((zY _ g 6 k x6 hk).trans ((zY _ g 5 k x5 hk).trans ((zY _ g 4 k x4 hk).trans ((zY _ g 3 k x3 hk).trans ((zY _ g 2 k x2 hk).trans ((zY _ g 1 k x1 hk).trans (zY _ g 0 k x0 hk)))))))))))))))
theorem zRr{a:World}(h:Below B a w)(hp:B<=g)(x0 x1 x2 x3 x4 x5 x6 x7 x8 x9 x10 x11 x12 x13 x14:Value):Below B a (((((((((((((((w.setCell ⟨g,0,none⟩ x0).setCell ⟨g,1,none⟩ x1).setCell ⟨g,2,none⟩ x2).setCell ⟨g,3,none⟩ x3).setCell ⟨g,4,none⟩ x4).setCell ⟨g,5,none⟩ x5).setCell ⟨g,6,none⟩ x6).setCell ⟨g,7,none⟩ x7).setCell ⟨g,8,none⟩ x8).setCell ⟨g,9,none⟩ x9).setCell ⟨g,10,none⟩ x10).setCell ⟨g,11,none⟩ x11).setCell ⟨g,12,none⟩ x12).setCell ⟨g,13,none⟩ x13).setCell ⟨g,14,none⟩ x14):=
 (yJ (yJ (yJ (yJ (yJ (yJ (yJ (yJ (yJ (yJ (yJ (yJ (yJ (yJ (yJ h hp 0 x0) hp 1 x1) hp 2 x2) hp 3 x3) hp 4 x4) hp 5 x5) hp 6 x6) hp 7 x7) hp 8 x8) hp 9 x9) hp 10 x10) hp 11 x11) hp 12 x12) hp 13 x13) hp 14 x14)
abbrev tS:TypeId:=134
def zZy:Array Value:=#[niq 0,niq 0,.slice none 0 0,niq 0,niq 0,.slice none 0 0,niq 0,niq 0,.slice none 0 0,niq 0,niq 0,.slice none 0 0,niq 0,niq 0,.slice none 0 0]
def zNi(n:Nat):World->Value->Prop:=fun w v=>∃g,v=ptq g 0/\Blk w g tW #[niq 0,niq 0,.slice none 0 0,niq 0,niq 0,.slice none 0 0,niq 0,niq 0,.slice none 0 0,niq 0,niq 0,.slice none 0 0,niq 0,niq 0,.slice none 0 0]/\n<=g
theorem zKG(n:Nat):zAK (zNi n):=fun _ _ _ x ⟨g,h1,h2,h3⟩=>⟨g,h1,h2.below x,h3⟩
theorem zME.work{W:World}{n0 R C Cu Cw:Nat}{z:W5}{so sc uo uc vo vc wo wc xo xc}(hg:Blk w g tW cs)(hn:n0<=g)
  (h:zME n0 R C Cu Cw z w (.agg #[.int .i64 R,.int .i64 C,.slice so R sc,.int .i64 R,.int .i64 Cu,.slice uo R uc,.int .i64 R,.int .i64 Cu,.slice vo R vc,.int .i64 C,.int .i64 Cw,.slice wo C wc,.int .i64 C,.int .i64 Cw,.slice xo C xc]))
  (hW:Blk W g tW #[.int .i64 R,.int .i64 C,.slice so R sc,.int .i64 R,.int .i64 Cu,.slice uo R uc,.int .i64 R,.int .i64 Cu,.slice vo R vc,.int .i64 C,.int .i64 Cw,.slice wo C wc,.int .i64 C,.int .i64 Cw,.slice xo C xc])
  (ho:qJ (fun b=>b=g) w W):∃bS bU bV bW bX,zCd W n0 g R C R C Cu Cw (.slice so R sc) (.slice uo R uc) (.slice vo R vc) (.slice wo C wc) (.slice xo C xc) bS bU bV bW bX z:=by
 obtain⟨so',sc',uo',uc',vo',vc',wo',wc',xo',xc',bS,bU,bV,bW,bX,e,m1,m2,m3,m4,m5,hz,a1,a2,a3,a4,a5,a6,a7,a8,a9,a10⟩:=h.ex;injection e with e
 simp only[Array.mk.injEq,List.cons.injEq,Value.slice.injEq,true_and,and_true]at e;obtain⟨⟨rfl,rfl⟩,⟨rfl,rfl⟩,⟨rfl,rfl⟩,⟨rfl,rfl⟩,rfl,rfl⟩:=e;refine⟨bS,bU,bV,bW,bX,hW,hn,m1.keepZ ho ?_,m2.keepZ ho ?_,m3.keepZ ho ?_,m4.keepZ ho ?_,m5.keepZ ho ?_,hz,a1,a2,a3,a4,a5,a6,a7,a8,a9,a10⟩;rintro b hb rfl;exact m1.nwb hg hb;rintro b hb rfl;exact m2.nwb hg hb;rintro b hb rfl;exact m3.nwb hg hb;rintro b hb rfl;exact m4.nwb hg hb;rintro b hb rfl;exact m5.nwb hg hb
theorem zXQ(hB:BSm B)(v kv:Value)(M:List (List Int))(R C:Nat)(w:World)(h:zAC w v R C M)(hF:zBU R C M)(hk:jY w kv 1)(hR:R<=1000000)(hC:C<=1000000)(hok:okF B R C (ent M))(s1:Sm 1):
  CPq 114 #[v,kv] w fun e w'=>∃v,e= .returned v/\zGs R C (ent M) w.heap.size w'.heap.size w' v/\BWq w w':=by
 refine(zQp v kv M R C 1 w h hF hk hR hC ?_ s1).mono fun e w' hr=>?_
 ·intro r hr z hz
  obtain⟨i,hi,ei⟩:=qW hr;obtain⟨j,hj,ej⟩:=qW hz;have e1:M[i]?=some r:=by rw[xga hi,ei]
  have e2:r[j]?=some z:=by rw[xga hj,ej]
  have e3:=hF.2 r hr;have:=hok i (by rw[<-hF.1];exact hi) j oM;rw[zEJ e1 e2]at this;exact hB.sm _ this
 have hq:genM R C (fun i j=>1*ent M i j)=genM R C (ent M):=zAG fun i _ j _=>jX _
 rw[hq]at hr;exact hr.within
theorem zKt(n:Nat)(w:World)(hn:n<=1000000):CPq 148 #[niq n] w fun e w'=>∃v,e= .returned v/\zGs n n idf w.heap.size w'.heap.size w' v/\BWq w w':=
 (zLk n w hn).mono fun _ _ hr=>hr.within
def qAc(R C:Nat)(F:Nat->Nat->Int):World->Value->Prop:=fun w v=>∃o c,v= .agg #[niq R,niq C,.slice o R c]/\zBq w (.slice o R c) (genM R C F)
theorem zE5{a b:World}(h:Below B w a)(ho:qJ (fun k=>base<=k) a b)(hB:B<=base)(hsz:B<=a.heap.size):Below B w b:=
 ⟨ho.bel.os.trans h.os,ho.bel.tape.trans h.tape,ho.bel.output.trans h.output,zB h.size ho.bel.size,fun k hk=>(ho.old k oM oM).trans (h.block k hk)⟩
theorem zBq.off(h:zBq w v M)(hg:Blk w g T cs)(h1:T≠tR)(h2:T≠tI)(ho:∀b,b≠g->w'.heap[b]?=w.heap[b]?)(hx:zBw w w'):zBq w' v M:=by
 obtain⟨ao,n,cap,e1,e2,e3,e4,e5⟩:=h;refine⟨ao,n,cap,e1,e2,e3,e4,fun hn=>?_⟩;obtain⟨b,cs',q1,q2,q3⟩:=e5 hn;have hne:∀{c:Nat} {U:TypeId} {ds:Array Value},w.heap[c]?=some (.cells ds U (0,0))->T≠U->c≠g:=by
  intro c U ds hc hT hh;subst hh;have hg':w.heap[c]?=some (.cells cs T (0,0)):=hg;rw[hg']at hc;injection hc with hc
  injection hc with _ ht
  exact hT ht
 refine⟨b,cs',q1,(ho b (hne q2 h1)).trans q2,fun k zs hk=>?_⟩;obtain⟨rv,r1,ao',n',cap',r2,r3,r4,r5,r6⟩:=q3 k zs hk;refine⟨rv,r1,ao',n',cap',r2,r3,r4,r5,fun hz=>?_⟩;obtain⟨b',s1,cs2,s2,s3⟩:=r6 hz;exact⟨b',s1,cs2,(ho b' (hne s2 h2)).trans s2,fun k z hk=>by
  obtain⟨a1,a2,a3,a4,a5,a6,a7⟩:=s3 k z hk;exact⟨a1,a2,a3,a4,a5,a6,a7.ext hx⟩⟩
def zZJ(t:TypeId)(n0:Nat)(cs:Array Value):World->Value->Prop:=fun w v=>∃b,v=ptq b 0/\n0<=b/\Blk w b t cs
theorem zOA(t:TypeId)(n0:Nat)(cs:Array Value):zAK (zZJ t n0 cs):=fun _ _ _ e ⟨b,h1,h2,h3⟩=>⟨b,h1,h2,h3.below e⟩
abbrev tHe:TypeId:=108
def SlP(R:Nat):World->Value->Prop:=fun _ v=>∃o c,v= .slice o R c
theorem zQW(R:Nat):zAK (SlP R):=fun _ _ _ _ h=>h
theorem Blk.neT{T':TypeId}{cs':Array Value}(h:Blk w a T cs)(k:Blk w b T' cs')(hT:T≠T'):a≠b:=by
 intro e;subst e;have h':w.heap[a]?=some (.cells cs T (0,0)):=h;have k':w.heap[a]?=some (.cells cs' T' (0,0)):=k;rw[h']at k';injection k' with q1
 injection q1 with _ ht
 exact hT ht
theorem zXu{al_:List AS}(h:(al_.all fun a=>!(a.op==k))=true):∀a∈al_,a.op≠k:=fun a ha e=>by
 have:=jP.1 h a ha;simp[e]at this
theorem Wri.nzb(h:Wri w A R C bs F){wb:Nat}(hw:Blk w wb T cs)(h1:T≠tR)(h2:T≠tI):¬ Zn A bs wb:=by
 intro hh;have hw':w.heap[wb]?=some (.cells cs T (0,0)):=hw;rcases hh with hb|hb
 ·obtain⟨r,cs',q1,-⟩:=h.blk hb
  rw[hw']at q1;injection q1 with q1
  injection q1 with _ ht
  exact h2 ht
 rcases(qC.own h).2 with⟨rfl,-⟩|⟨g,cap,cur,rfl,-,hh,-⟩
 cases hb;simp only[Value.ownBlock,Option.some.injEq]at hb;subst hb;rw[hw']at hh;injection hh with q1
 injection q1 with _ ht
 exact h1 ht
theorem zFc:∀(l m:List Nat),l.Nodup->(∀x∈l,x∈m)->l.length<=m.length
 | [],m,_,_=>zE _
 |a::l,m,h,hs=>by
  have ha:=hs a (zAP ..);obtain⟨h1,h2⟩:=List.nodup_cons.1 h;have ih:=zFc l (m.erase a) h2 (fun x hx=>(List.mem_erase_of_ne (fun e=>by subst e;exact h1 hx)).2 (hs x (qM _ hx)));rw[List.length_erase_of_mem ha]at ih;have:=List.length_pos_of_mem ha;simp only[List.length_cons];omega
def zMA(n C:Nat)(F:Nat->Nat->Int)(L:List (Nat × Nat)):List Nat:=L.map (·.1)++(List.range n).filter fun i=>decide (lead C F i<0)
theorem zKx{x:Bst}{L:List (Nat × Nat)}(h:LOk n C m x L):(L.map (·.1)).Nodup:=by
 rw[List.nodup_iff_pairwise_ne,List.pairwise_iff_getElem];intro i j hi hj hij;simp only[List.length_map]at hi hj;have:=h.inj i j hij hj;rw[xgb,xgb,xga hi,xga hj]at this;simpa using this
theorem zVA{L:List (Nat × Nat)}(h:a∈L.map (·.1)):∃k,k<L.length/\(L.getD k (0,0)).1=a:=by
 obtain⟨p,hp,rfl⟩:=List.mem_map.1 h;obtain⟨k,hk,e⟩:=qW hp;exact⟨k,hk,by rw[xgb,xga hk,e];rfl⟩
theorem zM9{x:Bst}{L:List (Nat × Nat)}(h:LOk n C m x L)(ha:a∈L.map (·.1)):a<n/\¬ lead C x.s a<0:=by
 obtain⟨k,hk,rfl⟩:=zVA ha;obtain⟨-,h2,h3,h4⟩:=h.mem k hk;exact⟨h2,fun hl=>h4 (zHg hl _ h3)⟩
theorem zLv{x:Bst}{L:List (Nat × Nat)}(h:LOk n C m x L):∀a∈zMA n C x.s L,a<n:=by
 intro a ha;rcases List.mem_append.1 ha with ha|ha
 exact(zM9 h ha).1;simp only[List.mem_filter,List.mem_range]at ha;exact ha.1
theorem zII{x:Bst}{L:List (Nat × Nat)}(h:LOk n C m x L):(zMA n C x.s L).Nodup:=by
 unfold zMA;rw[yT];refine⟨zKx h,List.Nodup.sublist List.filter_sublist List.nodup_range,fun a ha b hb e=>?_⟩;subst e;simp only[List.mem_filter,decide_eq_true_eq]at hb;exact(zM9 h ha).2 hb.2
theorem zLu{x:Bst}{L:List (Nat × Nat)}(h:LOk n C m x L)(hz:∀a,a<n->(∀k,k<L.length->(L.getD k (0,0)).1≠a)->lead C x.s a<0):(zMA n C x.s L).length=n:=by
 have h1:=zFc _ (List.range n) (zII h) (fun a ha=>yL.2 (zLv h a ha));have h2:=zFc (List.range n) (zMA n C x.s L) List.nodup_range (fun a ha=>by
  have ha:=yL.1 ha;by_cases hm:a∈L.map (·.1)
  ·exact List.mem_append.2 (.inl hm)
  refine List.mem_append.2 (.inr ?_);simp only[List.mem_filter,List.mem_range,decide_eq_true_eq];refine⟨ha,hz a ha fun k hk e=>hm ?_⟩;rw[<-e,xgb,xga hk];exact List.mem_map.2 ⟨_,zAd hk,rfl⟩)
 simp only[List.length_range]at h1 h2;omega
theorem StP.mono{lo':Nat}(h:StP lo R C F w v)(hl:lo'<=lo):StP lo' R C F w v:=by
 obtain⟨g,a,b,c,h1,h0,h5,⟨bs,h2,h2'⟩,h3,h4⟩:=h;exact⟨g,a,b,c,h1,zB hl h0,h5,⟨bs,h2,fun b hb=>zB hl (h2' b hb)⟩,h3,h4⟩
theorem zJZ{T:Array Value}{j:Nat}(h:i≠j):(T.setIfInBounds i v).getD j d=T.getD j d:=by
 rw[zAb,zAb,xgc h]
theorem zOz{T:Array Value}(h:T[i]?=some v):T.getD i d=v:=by
 rw[zAb,h];rfl
theorem qAZ{vs:List VS}(h:(vs.all fun a=>!(a.op==k))=true):∀a∈vs,a.op≠k:=fun a ha e=>by
 have:=jP.1 h a ha;simp[e]at this
theorem qAU{vs:List MS}(h:(vs.all fun a=>!(a.op==k))=true):∀a∈vs,a.op≠k:=fun a ha e=>by
 have:=jP.1 h a ha;simp[e]at this
theorem qJ.ofB(h:Below B w w')(hx:zBw w w'):qJ (fun b=>B<=b) w w':=⟨h.mono (zE _),hx,fun k _ hn=>h.block k (zCT hn)⟩
theorem zFq.type(h:zFq w base v xs):∀g,v.ownBlock=some g->∃cs,Blk w g tNn cs:=by
 intro g hg;rcases h.2.2 with⟨rfl,-⟩|⟨g',cap,cur,rfl,-,hh,-⟩
 cases hg;simp only[Value.ownBlock,Option.some.injEq]at hg;subst hg;exact⟨_,hh⟩
theorem zFq.ne(h:zFq w base v xs)(hb:Blk w b T cs)(hT:T≠tNn):v.ownBlock≠some b:=by
 intro e;obtain⟨cs',h2⟩:=h.type b e;exact Blk.neT hb h2 hT rfl
theorem zFq.far(h:zFq w base v xs)(hb:Blk w b T cs)(hT:T≠tNn)(i:Nat)(u:Value):zFq (w.setCell ⟨b,i,none⟩ u) base v xs:=by
 obtain⟨h1,h2,h3⟩:=id h;refine⟨h1,h2,?_⟩;rcases h3 with h3|⟨g,cap,cur,rfl,k1,k2,k3⟩
 exact .inl h3;exact .inr ⟨g,cap,cur,rfl,k1,(zY _ _ _ _ _ (fun e=>h.ne hb hT (by simp[Value.ownBlock,e]))).trans k2,k3⟩
def zV8(R C:Nat)(M:List (List Int)):World->Value->Prop:=fun w v=>∃o c,v= .agg #[niq R,niq C,.slice o R c]/\zBq w (.slice o R c) M
theorem zFW(R C:Nat)(M:List (List Int)):zAK (zV8 R C M):=fun _ _ _ x ⟨o,c,h1,h2⟩=>⟨o,c,h1,h2.below x⟩
theorem zBq.slice(h:zBq w v M):∃o c,v= .slice o M.length c:=by
 obtain⟨ao,n,cap,e1,e2,-⟩:=h;exact⟨ao,cap,by rw[e1,e2]⟩
theorem zHO(Ah ov:Value)(n Cs nb ob base:Nat)(bss os:List Nat)(F:Nat->Nat->Int)(w:World)(hw:Wri w Ah n Cs bss F)(hnb:Blk w nb 3 #[niq n])(hob:Blk w ob 96 #[ov])(hov:zFq w base ov os)
  (hos:∀x∈os,x<n) (hnd:os.Nodup) (hn:n<=1000000) (hCs:Cs<=1000000) (hlen:os.length=n):
  CPq 150 #[Ah,niq Cs,ptq nb 0,ptq ob 0] w fun e w'=>∃v,e= .returned v/\zV8 n Cs (os.map fun i=>qZ Cs (F i)) w' v/\BWq w w':=by
 refine(zOU Ah ov n Cs nb ob base bss os F w hw hnb hob hov hos hnd hn hCs oM).mono ?_;rintro e w' ⟨v,bs',rfl,h1,-,h3⟩;have h2:=qC.rows h1.rows0;obtain⟨o,c,rfl⟩:=zBq.slice h2;have hl:(os.map fun i=>qZ Cs (F i)).length=n:=by simp[hlen]
 rw[hl]at h2 ⊢
 exact⟨_,rfl,⟨o,c,rfl,h2⟩,h3⟩
structure zNd(w:World)(f:Value)(R C:Nat)(H U V:List (List Int)):Prop where
 ex:∃h u v,f= .agg #[niq R,niq C,h,niq R,niq R,u,niq R,niq R,v]/\zBq w h H/\zBq w u U/\zBq w v V
def zWg(R C:Nat)(H U V:List (List Int)):World->Value->Prop:=fun w f=>∃ho hc uo uc vo vc,f= .agg #[niq R,niq C,.slice ho R hc,niq R,niq R,.slice uo R uc,niq R,niq R,.slice vo R vc]/\zBq w (.slice ho R hc) H/\zBq w (.slice uo R uc) U/\zBq w (.slice vo R vc) V
theorem zMp(R C:Nat)(H U V:List (List Int)):zAK (zWg R C H U V):=fun _ _ _ x ⟨a,b,c,d,e,f,h1,h2,h3,h4⟩=>⟨a,b,c,d,e,f,h1,h2.below x,h3.below x,h4.below x⟩
theorem Tryz.sizeHe:(Tryz.prog.info? tHe).map (·.size)=some 9:=by kernel_rfl
theorem zWy(ha:a<os.length)(hb:b<C):ent (os.map fun i=>qZ C (F i)) a b=F (os.getD a 0) b:=by
 have h1:(os.map fun i=>qZ C (F i))[a]?=some (qZ C (F (os.getD a 0))):=by
  rw[List.getElem?_map,xga ha,Option.map_some,xgb,xga ha];rfl
 exact zEJ h1 (yE hb)
theorem zUq(h:os.length=n):zBU n C (os.map fun i=>qZ C (F i)):=by
 refine⟨by simp[h],fun r hr=>?_⟩;obtain⟨i,-,rfl⟩:=List.mem_map.1 hr;exact qA _ _
theorem zRT(hB:BSm B)(h:zV8 n n (os.map fun i=>qZ n (F i)) w v)(hl:os.length=n)(ho:∀x∈os,x<n)(hok:okF B n n F)(hn:n<=1000000):
  CPq 151 #[v] w fun e w'=>∃v,e= .returned v/\zV8 n n (genM n n fun a b=>F (os.getD b 0) a) w' v/\BWq w w':=by
 obtain⟨o,c,rfl,hr⟩:=h;refine(zGy _ n n _ w ⟨_,rfl,hr⟩ (zUq hl) hn hn ?_).mono ?_
 ·intro r hr z hz
  obtain⟨i,hi,rfl⟩:=List.mem_map.1 hr;obtain⟨j,hj,e⟩:=qW hz;rw[qA]at hj;have e2:=yE (f:=F i) hj;rw[xga (by rw[qA];exact hj),e]at e2;injection e2 with e2
  rw[e2];exact hB.sm _ (hok i (ho i hi) j hj)
 intro e w' hr;have hq:genM n n (fun a b=>ent (os.map fun i=>qZ n (F i)) b a)=genM n n (fun a b=>F (os.getD b 0) a):=zAG fun i hi j hj=>zWy oM hi
 rw[hq]at hr;obtain⟨v,rfl,⟨o,c,bs,h1,h2,h3⟩,hb⟩:=zEm.within hr;exact⟨v,rfl,⟨o,c,h1,qC.rows h2⟩,hb⟩
theorem zPX(k:Nat):((List.range (k+1)).filter fun i=>decide (lead C F i<0))=((List.range k).filter fun i=>decide (lead C F i<0))++(if lead C F k<0 then [k]else []):=by
 rw[zCi,List.filter_append];congr 1;by_cases h:lead C F k<0
 ·rw[if_pos h];simp[h]
 rw[if_neg h];simp[h]
theorem zSS(hB:BSd B)(v:Value)(M:List (List Int))(R C:Nat)(w:World)(h:zAC w v R C M)(hF:zBU R C M)(hR:R<=1000000)(hC:C<=1000000)(hok:okF B R C (ent M))(s1:Sm 1){J J':Nat->Bst->List (Nat × Nat)->Prop}(hE:zV6 B R C R J J')(hJ:J 0 ⟨ent M,idf,idf⟩ [])
  (hend:∀y L,J R y L->∀a,a<R->(∀k,k<L.length->(L.getD k (0,0)).1≠a)->lead C y.s a<0):
  CPq 102 #[v] w fun e w'=>∃v y L,e= .returned v/\J R y L/\(zMA R C y.s L).length=R/\zNd w' v R C ((zMA R C y.s L).map fun i=>qZ C (y.s i)) ((zMA R C y.s L).map fun i=>qZ R (y.t i)) (genM R R fun a b=>y.i ((zMA R C y.s L).getD b 0) a)/\BWq w w':=by
 have h0:=h;obtain⟨A,rfl,h⟩:=h;obtain⟨ao,n,cap,rfl,e2,e3,e4,-⟩:=id h;obtain rfl:R=n:=by rw[<-e2,hF.1]
 have hdv:decide (zBS R C M)=true:=decide_eq_true hF.valid;have HF:=xgv hF;have HOK:=xgv hok;have H0:=xgv h0;have S1:=xgv s1;have HE:=xgv hE;have HJ:=xgv hJ;have HEND:=xgv hend;clear hok h0 hF e2 s1 hE hJ hend;go_enter Tryz.func102,Tryz.ntmps102;go_upto_region 1 with(fail)
 refine zD ?_;intro W0 hW0;obtain⟨hB0,bx1,br,hs0⟩:=zAj hW0;obtain⟨c1,c2,c3,c4,c5,c6⟩:=bx1.three;clear hW0;go_wp2_with fail
 refine(zDR _ R C M W0 (H0.out.below hB0)).mono ?_;rintro e w1 ⟨rfl,hb1⟩;rw[hdv];have bx1:=bx1.below hb1;have br:=br.below hb1;have hB1:=nx hB0 hb1;have hs1:=hb1.size;clear c1 c2 c3 c4 c5 c6 hdv;obtain⟨c1,c2,c3,c4,c5,c6⟩:=bx1.three;have hl1:=zKk w1.heap.size R C (ent M);have hl2:=zOA 3 w1.heap.size #[.int .i64 0];go_upto_region 3 with(fail)
 refine yP 5 [pcD 3 [] (StP w1.heap.size R C (ent M)),pcD 4 [] (zZJ 3 w1.heap.size #[.int .i64 0])] ?_;refine sRd ?_;refine sRc (fun wS hI Gk hG=>?_) (fun va3 _=>?_)
 ·go_simp
  refine(zNC hB.bsm _ M R C _ ((H0.out.below hB1).below hI.bel).off HF.out hR hC HOK.out S1.out).mono ?_;rintro e wa ⟨v,rfl,hv,hba⟩;exact⟨_,rfl,hG _ _ (hv.mono hI.bel.size),hba⟩
 refine sRc (fun wS hI Gk hG=>?_) (fun va4 _=>?_)
 ·go_simp
  exact⟨hG _ _ ⟨_,rfl,hI.bel.size,qX _ _ _⟩,(zA _ _).alloc (xgf _) _⟩
 refine sRe ?_;intro w2 hbw2 ha3 ha4;obtain⟨bw,Ah,Au,Av,rfl,q1,q2,q3,-,-⟩:StP w1.heap.size R C (ent M) w2 va3:=ha3;obtain⟨bn,rfl,q4,q5⟩:zZJ 3 w1.heap.size #[.int .i64 0] w2 va4:=ha4;obtain⟨bss,hws,hzs⟩:=q3;obtain⟨n1,n2⟩:w2.cell? ⟨bn,0,none⟩=some (.int .i64 0)/\w2.frozen? ⟨bn,0,none⟩=false:=⟨q5.cell 0,q5.frozen 0⟩;have hnbw:bn≠bw:=Blk.neT q5 q2 dE;have hB2:=nx hB1 hbw2;have br:=br.below hbw2;have bx1:=bx1.below hbw2;have hs2:=hbw2.size;clear c1 c2 c3 c4 c5 c6 hl1 hl2;go_upto_region 4 with(fail)
 refine zD ?_;intro W2 hW2;have ho2:qJ (fun b=>b=bn) w2 W2:=by rw[hW2.out];exact⟨yJ (zA _ _) (zE _) _ _,q5.lext dE _ _,fun b _ hb=>zY _ _ _ _ _ hb⟩
 have hB2:BWq w W2:=by rw[hW2.out];exact yJ hB2 oM _ _
 have hws:=hws.keepZ ho2 (by rintro b hb rfl;exact hws.nzb q5 dE dE hb);have q2:=ho2.blk q2 (qD hnbw);have br:=ho2.blk br oM;have bx1:=ho2.blk bx1 oM;have q5:Blk W2 bn 3 #[.int .i64 R]:=by rw[hW2.out];simpa using q5.set_ 0 (.int .i64 R)
 have hs2:=zB hs2 ho2.bel.size;have n1:=q5.cell 0;have hl1:=zQW R;have lws:∀b,Zn Ah bss b->b<W2.heap.size:=fun b hb=>hws.zlt hb
 have HWS:=xgv hws;have LWS:=xgv lws;have hlb:=q2.lt;obtain⟨so,sc,rfl⟩:=hws.shape;clear hW2 ho2 n2 hws lws;refine zEG 11 rfl (RXS W2 _ [⟨0,17,fun _ v=>v= .pointer (some ⟨bw,0,none⟩)⟩,⟨1,18,fun _ v=>v= .pointer (some ⟨bw,0,none⟩)⟩,⟨2,19,fun _ v=>v= .int .i64 R⟩,⟨4,21,SlP R⟩,⟨5,22,fun _ v=>v= .int .i64 R⟩,⟨7,24,SlP R⟩,⟨8,25,fun _ v=>v= .pointer (some ⟨bw,0,none⟩)⟩,⟨9,26,fun _ v=>v= .pointer (some ⟨bw,1,none⟩)⟩] [⟨3,20,R,R,idf⟩,⟨6,23,R,R,idf⟩] [⟨4,21,⟨3,20,R,R,idf⟩⟩,⟨7,24,⟨6,23,R,R,idf⟩⟩] 10 (fun T w=>w.setCell ⟨bw,1,none⟩ (T.getD 21 undef))) kR (RXS.start (RX.start kR (by repeat' (first|exact zE9 _|exact zF5 _|assumption|refine xgm.2 ⟨?_,?_⟩|exact xgn _)) (by
   refine xgm.2 ⟨⟨mm0,_,mm3,rfl,rfl⟩,xgm.2 ⟨⟨mm1,_,mm5,rfl,rfl⟩,xgn _⟩⟩))) ?finX ?stepsX
 case stepsX=>
  refine⟨?_,?_,?_,?_,?_,?_,?_,?_,?_,?_,?_,trivial⟩
  ·refine zAF.liftX kR dE ?_
   intro L T wS hL hd hcl hI K hK;try refine qB rfl ?_
   have zt:T[4]?=some (.pointer (some ⟨bw,0,none⟩)):=hI.g.keep 4 sI sI;go_simp;exact hK _ _ (hI.y mm0 rfl (zXu kR))
  ·intro L T wS hL hd hcl hI K hK
   try refine qB rfl ?_
   have zt:T[4]?=some (.pointer (some ⟨bw,0,none⟩)):=by
    obtain⟨w0,h0,-,-⟩:=hI;exact h0.g.keep 4 sI sI
   go_simp;exact hK _ _ (hI.step (fun w0 h0=>h0.y mm1 rfl (zXu kR)) dE (fun w=>by rw[zJZ dE]))
  ·refine zAF.liftX kR dE ?_
   intro L T wS hL hd hcl hI K hK;try refine qB rfl ?_
   have zt:T[3]?=some (.pointer (some ⟨bn,0,none⟩)):=hI.g.keep 3 sI sI;have cc0:=hI.g.cell n1;go_simp;exact hK _ _ (hI.y mm2 rfl (zXu kR))
  ·refine zAF.liftX kR dE ?_
   intro L T wS hL hd hcl hI K hK;try refine qB rfl ?_
   obtain⟨_,zt2,rfl⟩:=hI.g.val _ mm2 (hd 2);go_simp;refine(zKt R _ hR).mono ?_;rintro e wa ⟨v,rfl,hv,hba⟩;exact hK _ _ (hI.mat hcl hL ⟨3,20,_,_,_⟩ mm0 rfl hba hv kR)
  ·refine zAF.liftX kR dE ?_
   intro L T wS hL hd hcl hI K hK;try refine qB rfl ?_
   obtain⟨_,zt3,o,c,rfl⟩:=hI.g.matv ⟨3,20,R,R,idf⟩ mm0 (hd 3);go_simp;exact hK _ _ (hI.alias ⟨4,21,⟨3,20,R,R,idf⟩⟩ mm0 ⟨4,21,SlP R⟩ mm3 rfl rfl ⟨o,c,rfl⟩ (hd 3) (by
    refine xgm.2 ⟨fun _=>rfl,xgm.2 ⟨fun e=>absurd e (by dsimp only;omega),xgn _⟩⟩) zt3 rfl)
  ·refine zAF.liftX kR dE ?_
   intro L T wS hL hd hcl hI K hK;try refine qB rfl ?_
   have zt:T[3]?=some (.pointer (some ⟨bn,0,none⟩)):=hI.g.keep 3 sI sI;have cc0:=hI.g.cell n1;go_simp;exact hK _ _ (hI.y mm4 rfl (zXu kR))
  ·refine zAF.liftX kR dE ?_
   intro L T wS hL hd hcl hI K hK;try refine qB rfl ?_
   obtain⟨_,zt5,rfl⟩:=hI.g.val _ mm4 (hd 5);go_simp;refine(zKt R _ hR).mono ?_;rintro e wa ⟨v,rfl,hv,hba⟩;exact hK _ _ (hI.mat hcl hL ⟨6,23,_,_,_⟩ mm1 rfl hba hv kR)
  ·intro L T wS hL hd hcl hI K hK
   try refine qB rfl ?_
   obtain⟨o,c,zt6⟩:∃o c,T[23]?=some (.agg #[.int .i64 R,.int .i64 R,.slice o R c]):=by
    obtain⟨w0,h0,-,-⟩:=hI;obtain⟨_,zt6,o,c,rfl⟩:=h0.g.matv ⟨6,23,R,R,idf⟩ mm1 (hd 6);exact⟨o,c,zt6⟩
   have h6:=hd 6 kR;go_simp;exact hK _ _ (hI.step (fun w0 h0=>h0.alias ⟨7,24,⟨6,23,R,R,idf⟩⟩ mm1 ⟨7,24,SlP R⟩ mm5 rfl rfl ⟨o,c,rfl⟩ h6 (by
    refine xgm.2 ⟨fun e=>absurd e (by dsimp only;omega),xgm.2 ⟨fun _=>rfl,xgn _⟩⟩) zt6 rfl) dE (fun w=>by rw[zJZ dE]))
  ·refine zAF.liftX kR dE ?_
   intro L T wS hL hd hcl hI K hK;try refine qB rfl ?_
   obtain⟨_,zt0,rfl⟩:=hI.g.val _ mm0 (hd 0);go_simp;exact hK _ _ (hI.y mm6 rfl (zXu kR))
  ·refine zAF.liftX kR dE ?_
   intro L T wS hL hd hcl hI K hK;try refine qB rfl ?_
   obtain⟨_,zt8,rfl⟩:=hI.g.val _ mm6 (hd 8);go_simp;exact hK _ _ (hI.y mm7 rfl (zXu kR))
  intro L T wS hL hd hcl hJ K hK;try refine qB rfl ?_
  have hI:=hJ.here hL;obtain⟨_,zt9,rfl⟩:=hI.g.val _ mm7 (hd 9);obtain⟨_,zt4,o,c,rfl⟩:=hI.g.val _ mm3 (hd 4);obtain⟨g1,g2,g3,g4,g5,g6⟩:=(q2.below hI.g.bel).three;go_simp;exact hK _ _ (RXS.store hI hL (qAZ kR) (qAU kR) (by show _=World.setCell _ _ _;rw[zOz zt4]))
 intro T w3 hJ;obtain⟨w0,hX,-,hst⟩:=hJ;replace hst:=hst kR;obtain⟨bot,top,g1,g2⟩:=hX.g.gh;obtain⟨k1,k2,m1,k3,k4⟩:=g1 ⟨3,20,R,R,idf⟩ mm0 rfl;obtain⟨k5,k6,m2,k7,k8⟩:=g1 ⟨6,23,R,R,idf⟩ mm1 rfl;have k9:=g2 ⟨3,20,R,R,idf⟩ mm0 ⟨6,23,R,R,idf⟩ mm1 (by dsimp only;omega) rfl rfl;obtain⟨-,o1,c1,a1,a2⟩:=hX.al ⟨4,21,⟨3,20,R,R,idf⟩⟩ mm0 rfl;obtain⟨-,o2,c2,a3,a4⟩:=hX.al ⟨7,24,⟨6,23,R,R,idf⟩⟩ mm1 rfl;have e21:T.getD 21 undef= .slice o1 R c1:=zOz a2;replace hst:w3=w0.setCell ⟨bw,1,none⟩ (T.getD 21 undef):=hst;rw[e21]at hst;obtain⟨_,z17,rfl⟩:=hX.g.val _ mm0 rfl;obtain⟨_,z18,rfl⟩:=hX.g.val _ mm1 rfl;obtain⟨_,z19,rfl⟩:=hX.g.val _ mm2 rfl;obtain⟨_,z22,rfl⟩:=hX.g.val _ mm4 rfl;obtain⟨_,z25,rfl⟩:=hX.g.val _ mm6 rfl;obtain⟨_,z26,rfl⟩:=hX.g.val _ mm7 rfl;have hT:=zGh [(17,.pointer (some ⟨bw,0,none⟩)),(18,.pointer (some ⟨bw,0,none⟩)),(19,.int .i64 R),(21,.slice o1 R c1),(22,.int .i64 R),(24,.slice o2 R c2),(25,.pointer (some ⟨bw,0,none⟩)),(26,.pointer (some ⟨bw,1,none⟩)),(20,.agg #[.int .i64 R,.int .i64 R,.slice o1 R c1]),(23,.agg #[.int .i64 R,.int .i64 R,.slice o2 R c2])]
  (fun j hj=>hX.g.keep j (by simp only[xgm]at hj ⊢;simp[hj]) (by simp only[xgm]at hj ⊢;simp[hj]))
  (by simp only[xgm];simp[z17,z18,z19,a2,z22,a4,z25,z26,a1,a3]) hX.g.size
 have hbl:=hX.g.bel;obtain⟨bst,wt,zt⟩:∃bst,Wri w0 (.slice o1 R c1) R R bst idf/\∀b,Zn (.slice o1 R c1) bst b->bot 3<=b/\b<top 3:=by
  obtain⟨o',c',bst,e,q1,q2⟩:=k4;have e1:=k3.symm.trans a1;injection e1 with e1
  rw[e1]at e;injection e with e
  simp only[Array.mk.injEq,List.cons.injEq,Value.slice.injEq,true_and,and_true]at e;obtain⟨rfl,rfl⟩:=e;exact⟨bst,q1,q2⟩
 obtain⟨bsi,wi,zi⟩:∃bsi,Wri w0 (.slice o2 R c2) R R bsi idf/\∀b,Zn (.slice o2 R c2) bsi b->bot 6<=b/\b<top 6:=by
  obtain⟨o',c',bst,e,q1,q2⟩:=k8;have e1:=k7.symm.trans a3;injection e1 with e1
  rw[e1]at e;injection e with e
  simp only[Array.mk.injEq,List.cons.injEq,Value.slice.injEq,true_and,and_true]at e;obtain⟨rfl,rfl⟩:=e;exact⟨bst,q1,q2⟩
 dsimp only at k1 k2 k5 k6 k9;have hWA:=HWS.out.below hbl;have p1:Ap (.slice so R sc) bss (.slice o1 R c1) bst:=zCv (a:=0) (b:=W2.heap.size) (fun x hx=>⟨zE _,LWS.out x hx⟩) zt k1;have p2:Ap (.slice so R sc) bss (.slice o2 R c2) bsi:=zCv (a:=0) (b:=W2.heap.size) (fun x hx=>⟨zE _,LWS.out x hx⟩) zi k5;have p3:Ap (.slice o1 R c1) bst (.slice o2 R c2) bsi:=zCv zt zi k9;have q20:=q2.below hbl;have hB3:=nx hB2 hbl;have br:=br.below hbl;have bx1:=bx1.below hbl;have q5:=q5.below hbl;have q23:Blk w3 bw tHW #[.slice so R sc,.slice o1 R c1,Av]:=by rw[hst];simpa using q20.set_ 1 (.slice o1 R c1)
 have ho3:qJ (fun b=>b=bw) w0 w3:=by rw[hst];exact⟨yJ (zA _ _) (zE _) _ _,q20.lext dE _ _,fun b _ hb=>zY _ _ _ _ _ hb⟩
 have hB3:BWq w w3:=by rw[hst];exact yJ hB3 oM _ _
 have wA:=hWA.keepZ ho3 (by rintro b hb rfl;exact hWA.nzb q20 dE dE hb);have wT:=wt.keepZ ho3 (by rintro b hb rfl;exact wt.nzb q20 dE dE hb);have wI:=wi.keepZ ho3 (by rintro b hb rfl;exact wi.nzb q20 dE dE hb);have br:=ho3.blk br oM;have bx1:=ho3.blk bx1 oM;have q5:=ho3.blk q5 hnbw;have hs3:w1.heap.size<=w3.heap.size:=by have:=hbl.size;have:=ho3.bel.size;omega
 have WA:=xgv wA;have WT:=xgv wT;have WI:=xgv wI;have ZT:=xgv (fun b (hb:Zn (.slice o1 R c1) bst b)=>zB k1 (zt b hb).1);have ZI:=xgv (fun b (hb:Zn (.slice o2 R c2) bsi b)=>zB k5 (zi b hb).1);have P1:=xgv p1;have P2:=xgv p2;have P3:=xgv p3;clear hX g1 g2 k1 k2 k3 k4 k5 k6 k7 k8 k9 a1 a2 a3 a4 z17 z18 z19 z22 z25 z26 e21 hWA wt zt wi zi wA wT wI p1 p2 p3 q20 ho3 hst hbl HWS LWS n1 q2 bot top;simp only[List.foldl_cons,List.foldl_nil,xgh,xgi,xgj,ptr]at hT;subst hT;simp only[xgl,xgk];obtain⟨g1,g2,g3,g4,g5,g6⟩:=q23.three;go_upto_region 5 with(fail)
 refine zD ?_;intro W4 hW4;have ho4:qJ (fun b=>b=bw) w3 W4:=by rw[hW4.out];exact⟨yJ (zA _ _) (zE _) _ _,q23.lext dE _ _,fun b _ hb=>zY _ _ _ _ _ hb⟩
 have hB4:BWq w W4:=by rw[hW4.out];exact yJ hB3 oM _ _
 have q24:Blk W4 bw tHW #[.slice so R sc,.slice o1 R c1,.slice o2 R c2]:=by rw[hW4.out];simpa using q23.set_ 2 (.slice o2 R c2)
 have wA:=WA.out.keepZ ho4 (by rintro b hb rfl;exact WA.out.nzb q23 dE dE hb);have wT:=WT.out.keepZ ho4 (by rintro b hb rfl;exact WT.out.nzb q23 dE dE hb);have wI:=WI.out.keepZ ho4 (by rintro b hb rfl;exact WI.out.nzb q23 dE dE hb);have br:=ho4.blk br oM;have bx1:=ho4.blk bx1 oM;have q5:=ho4.blk q5 hnbw;have hs4:w1.heap.size<=W4.heap.size:=by have:=ho4.bel.size;omega
 have hband:zFo W4 (.slice so R sc) (.slice o1 R c1) (.slice o2 R c2) R C R bss bst bsi (ent M) idf idf:=⟨wA,wT,wI,P1.out.far,P2.out.far,P3.out.far,P1.out.own,P2.out.own,P3.out.own⟩;obtain⟨Z,hZ⟩:∃Z:Nat->Prop,Z=fun b=>b∈bss∨b∈bst∨b∈bsi:=⟨_,rfl⟩
 have hrun:zEM true Z W4 bw (.slice so R sc) R C R ⟨ent M,idf,idf⟩:=⟨_,_,bss,bst,bsi,q24,hband,fun b hb=>by rw[hZ];exact hb⟩;have hzl:∀b,Z b->b<W4.heap.size:=fun b hb=>by
  rw[hZ]at hb;rcases hb with hb|hb|hb
  exact wA.zlt (.inl hb);exact wT.zlt (.inl hb);exact wI.zlt (.inl hb)
 have hzt:∀{b:Nat} {T:TypeId} {cs:Array Value},Blk W4 b T cs->T≠tR->T≠tI->¬ Z b:=fun hb h1 h2 hz=>by
  rw[hZ]at hz;rcases hz with hz|hz|hz
  exact wA.nzb hb h1 h2 (.inl hz);exact wT.nzb hb h1 h2 (.inl hz);exact wI.nzb hb h1 h2 (.inl hz)
 have hgz:∀g,(Value.slice so R sc).ownBlock=some g->¬ Z g:=fun g hg hz=>by
  rw[hZ]at hz;rcases hz with hz|hz|hz
  exact wA.rown wA hz hg;exact wT.rown wA hz hg;exact wI.rown wA hz hg
 have hlo:∀b,Zn (.slice so R sc) bss b∨Zn (.slice o1 R c1) bst b∨Zn (.slice o2 R c2) bsi b->b<W4.heap.size:=fun b hb=>by
  rcases hb with hb|hb|hb
  exact wA.zlt hb;exact wT.zlt hb;exact wI.zlt hb
 have hzw:∀b,Z b->w.heap.size<=b:=fun b hb=>by
  rw[hZ]at hb;rcases hb with hb|hb|hb
  have:=hzs b (.inl hb);omega;have:=ZT.out b (.inl hb);omega;have:=ZI.out b (.inl hb);omega
 have nz5:=hzt q5 dE dE;have nzb:=hzt q24 dE dE;have nzr:=hzt br dE dE;have nz1:=hzt bx1 dE dE;clear hzt hZ g1 g2 g3 g4 g5 g6 hW4 ho4 WA WT WI P1 P2 P3 hband wA wT wI;go_wp2_with fail
 refine(zPJ hB HE.out hrun HJ.out hR hC hR hzl hgz).mono ?_;rintro e w5 ⟨pv,y,Lp,rfl,hO,hz,hJ,hP⟩;obtain⟨hokx,hL⟩:=HE.out.ok R y Lp hJ;obtain⟨po,pcap,rfl,-,-,-⟩:=hP.at_;unfold zEM at hz;rw[if_pos rfl]at hz;obtain⟨Au',Av',bsh,bsu,bsv,r1,r2,r3⟩:=hz;have q25:=hO.blk q24 nzb;obtain⟨rfl,rfl⟩: .slice o1 R c1=Au'/\.slice o2 R c2=Av':=by
  have e1:w5.heap[bw]?=some (.cells #[.slice so R sc,.slice o1 R c1,.slice o2 R c2] tHW (0,0)):=q25;have e2:w5.heap[bw]?=some (.cells #[.slice so R sc,Au',Av'] tHW (0,0)):=r1;rw[e1]at e2;injection e2 with e2
  injection e2 with e2
  simp only[Array.mk.injEq,List.cons.injEq,true_and,and_true]at e2;exact e2
 have hlA:∀b,Zn (.slice so R sc) bsh b->¬ (W4.heap.size<=b):=fun b hb=>by
  rcases hb with hb|hb
  have:=hzl b (r3 b (.inl hb));omega;have:=hlo b (.inl (.inr hb));omega
 have hlU:∀b,Zn (.slice o1 R c1) bsu b->¬ (W4.heap.size<=b):=fun b hb=>by
  rcases hb with hb|hb
  have:=hzl b (r3 b (.inr (.inl hb)));omega;have:=hlo b (.inr (.inl (.inr hb)));omega
 have hlV:∀b,Zn (.slice o2 R c2) bsv b->¬ (W4.heap.size<=b):=fun b hb=>by
  rcases hb with hb|hb
  have:=hzl b (r3 b (.inr (.inr hb)));omega;have:=hlo b (.inr (.inr (.inr hb)));omega
 have hB5:BWq w w5:=zE5 hB4 (hO.mono (Z':=fun k=>w.heap.size<=k) (fun k _ hk=>hzw k hk)) (xgf _) hB4.size;have lbx:=bx1.lt;have lbr:=br.lt;have br:=hO.blk br nzr;have lbn:=q5.lt;have bx1:=hO.blk bx1 nz1;have q5:=hO.blk q5 nz5;have l24:=q24.lt;have l45:=hO.bel.size;have HL:=xgv hL;have HOX:=xgv hokx;have HJY:=xgv hJ;have hlenO:=zLu hL (HEND.out y Lp hJ);have HLT:=xgv (zLv hL);have HND:=xgv (zII hL);have hLl:=hL.len;go_upto_region 6 with(fail)
 refine zD ?_;intro W6 hW6;obtain⟨hB6',T5,hs6⟩:=qL hW6;have hB6:=nx hB5 hB6';have HA:=xgv (r2.s.below hB6');have HU:=xgv (r2.t.below hB6');have HW:=xgv (r2.i.below hB6');have HP:=xgv (hP.below hB6');have q25:=q25.below hB6';have br:=br.below hB6';have bx1:=bx1.below hB6';have q5:=q5.below hB6';obtain⟨g1,g2,g3,g4,g5,g6⟩:=q25.three;have hs56:=hB6'.size;have hnd:=HND.out;clear hW6 hP hL hokx hJ r1 r2 hB6' hlo hzw hrun hzl hgz hnd;go_wp2;go_loopw [36] (fun iv wr=>∃(k:Nat) (v:Value),iv= .int .i64 k/\k<=R/\Blk wr w5.heap.size 96 #[v]/\jZ (zFq wr W4.heap.size v (Lp.map (·.1)++(List.range k).filter fun i=>decide (lead C y.s i<0)))/\Below W4.heap.size W6 wr/\zBw W6 wr) (fun iv _=>R-(intOf iv).toNat)
 case atStart=>exact⟨0,_,rfl,oM,T5,⟨by simpa using HP.out⟩,zA _ _,zBw.refl _⟩
 clear T5 HP;obtain⟨k,uv,rfl,hk,T5,HV,hb,hx⟩:=hrel;obtain⟨uo,ucap,rfl,-,-,-⟩:=HV.out.at_;obtain⟨un,hun⟩:∃un,(Lp.map (·.1)++(List.range k).filter fun i=>decide (lead C y.s i<0)).length=un:=⟨_,rfl⟩;rw[hun]at T5 HV;have hoB:=qJ.ofB hb hx;have hwr:=HA.out.keepZ hoB hlA;have hsz:=hb.size;by_cases hlt:k<R
 ·obtain⟨g,bi,eg,lg,hbi,-,o1',-⟩:=qC.at_ hwr (i:=k) (by rw[hwr.len];exact hlt)
  subst eg;have hrow:=hwr.rowAt hlt hbi;have hVec:=hrow.vec (qA _ _) (xgf _) oM;clear hwr;go_wp2_with fail
  refine(zEt _ _ _ hVec).mono ?_;rintro e w7 ⟨rfl,hb7⟩;rw[zLg];obtain⟨c0,hc0⟩:∃c0,lead C y.s k=c0:=⟨_,rfl⟩;rw[hc0];have T7:=T5.below hb7;have HV7:=xgv (HV.out.below hb7);have hbn7:Below W4.heap.size W6 w7:=hb.trans (hb7.mono oM);have hxn7:=hx.trans (lx hb7);have hs7:=hb7.size;by_cases hneg:c0<0
  ·have hst:(List.range (k+1)).filter (fun i=>decide (lead C y.s i<0))=(List.range k).filter (fun i=>decide (lead C y.s i<0))++ [k]:=by rw[zPX,if_pos (by rw[hc0];exact hneg)]
   have HST:=xgv hst;obtain⟨t1,t2⟩:w7.cell? ⟨w5.heap.size,0,none⟩=some (.slice uo un ucap)/\w7.frozen? ⟨w5.heap.size,0,none⟩=false:=⟨T7.cell 0,T7.frozen 0⟩;have hys:∀w':World,zIX (w'.alloc (.cells #[.int .i64 k] tNn)) (some ⟨w'.heap.size,0,none⟩) [k]:=fun w'=>⟨by simp;omega,fun _=>⟨_,0,_,rfl,heap_alloc_new w' _,fun k x hk=>by
    match k with
    |0=>simp at hk;subst hk;rfl
    |k+1=>simp at hk⟩⟩
   have hfl:((List.range k).filter fun i=>decide (lead C y.s i<0)).length<=k:=by
    have:=zCH (fun i=>decide (lead C y.s i<0)) (List.range k);simpa using this
   have l7:=T7.lt;clear hc0 hst hVec hrow o1';go_wp2_with (at_builtin;refine zZ1 rfl _ _ rfl W4.heap.size (.slice uo un ucap) _ rfl (HV7.out.alloc _) (some ⟨w7.heap.size,0,none⟩) 1 1 [k] rfl (hys w7) rfl (by simp only[List.length_append,List.length_map];omega) (by simp;omega) ?_;intro v' w' hown hgr;obtain⟨vo,vn,vcap,rfl⟩:∃a b c,v'= .slice a b c:=(by obtain⟨p,q,r,-,-,-⟩:=hown.at_;exact⟨_,_,_,r⟩);have T8:Blk w' w5.heap.size 96 #[.slice uo un ucap]:=(hgr.block _ (T7.alloc _).lt (fun e=>HV7.out.ne T7 dE e.symm)).trans (T7.alloc _);obtain⟨t3,t4⟩:w'.cell? ⟨w5.heap.size,0,none⟩=some (.slice uo un ucap)/\w'.frozen? ⟨w5.heap.size,0,none⟩=false:=⟨T8.cell 0,T8.frozen 0⟩)
   have hgr:World.grownBy (w7.alloc (.cells #[.int .i64 k] tNn)) w' (Value.ownBlock (.slice uo un ucap)):=hgr;have T8:Blk w' w5.heap.size 96 #[.slice uo un ucap]:=T8;have hx8:zBw w7 w':=(lx ((zA _ _).alloc (xgf _) _)).trans (zDu (HV7.out.alloc _).2 dE hgr);have hb8:Below W4.heap.size W6 w':=(hbn7.alloc oM _).grown hgr (by simp;omega) (fun g hg=>(HV7.out.own g hg).1);go_roundw
   case rel=>
    refine⟨k+1,_,by simp,oM,by simpa using T8.set_ 0 _,⟨?_⟩,yJ hb8 oM _ _,(hxn7.trans hx8).trans (T8.lext dE _ _)⟩;rw[HST.out,<-zAh];exact hown.far T8 dE 0 _
   case measure=>exact meq
  have hst:(List.range (k+1)).filter (fun i=>decide (lead C y.s i<0))=(List.range k).filter (fun i=>decide (lead C y.s i<0)):=by rw[zPX,if_neg (by rw[hc0];exact hneg),zA0]
  have HST:=xgv hst;clear hc0 hst hVec hrow o1';go_wp2;go_roundw
  case rel=>exact⟨k+1,_,by simp,oM,T7,⟨by rw[HST.out];exact HV7.out⟩,hbn7,hxn7⟩
  case measure=>exact meq
 obtain rfl:R=k:=oM;have hos:zMA R C y.s Lp=Lp.map (·.1)++(List.range R).filter fun i=>decide (lead C y.s i<0):=rfl
 rw[<-hos]at HV hun;obtain⟨os,hose⟩:∃os,zMA R C y.s Lp=os:=⟨_,rfl⟩;rw[hose]at HV hun HLT HND hlenO;have HOSE:=xgv hose;have HWR:=xgv hwr;have HUR:=xgv (HU.out.keepZ hoB hlU);have HVR:=xgv (HW.out.keepZ hoB hlV);have q25:=q25.belowB hb l24;have q5:=q5.belowB hb lbn;have bx1:=bx1.belowB hb lbx;have br:=br.belowB hb lbr;have hBr:BWq w wr:=zE5 hB6 ((qJ.ofB hb hx).mono (Z':=fun k=>w.heap.size<=k) (fun k _ hk=>by omega)) (xgf _) hB6.size;have n1:=q5.cell 0;obtain⟨k1,k2,k3,-,-,-⟩:=bx1.three;have hl1:=zFW R C (os.map fun i=>qZ C (y.s i));have hl2:=zFW R R (os.map fun i=>qZ R (y.t i));have hl3:=zFW R R (os.map fun i=>qZ R (y.i i));have hl4:=zFW R R (genM R R fun a b=>y.i (os.getD b 0) a);have hl5:=zMp R C (os.map fun i=>qZ C (y.s i)) (os.map fun i=>qZ R (y.t i)) (genM R R fun a b=>y.i (os.getD b 0) a);obtain⟨g1,g2,g3,-,-,-⟩:=q25.three;clear hos hose hwr hoB hlA hlU hlV HA HU HW hb hx g4 g5 g6;go_upto_region 13 with(fail)
 refine yP 24 [pcD 7 [] (zV8 R C (os.map fun i=>qZ C (y.s i))),pcD 14 [] (zV8 R R (os.map fun i=>qZ R (y.t i))),pcD 21 [] (zV8 R R (os.map fun i=>qZ R (y.i i))),pcD 22 [21] (zV8 R R (genM R R fun a b=>y.i (os.getD b 0) a)),pcD 23 [7,14,22] (zWg R C (os.map fun i=>qZ C (y.s i)) (os.map fun i=>qZ R (y.t i)) (genM R R fun a b=>y.i (os.getD b 0) a))] ?_;refine sRd ?_;refine sRc (fun wS hI Gk hG=>by go_simp;exact ck hG (zHO _ _ R C bn _ _ bsh _ _ _ (HWR.out.below hI.bel) (q5.below hI.bel) (T5.below hI.bel) (HV.out.below hI.bel) HLT.out HND.out hR hC hlenO)) (fun vd7 _=>?_);refine sRd ?_;refine sRc (fun wS hI Gk hG=>by go_simp;exact ck hG (zHO _ _ R R bn _ _ bsu _ _ _ (HUR.out.below hI.bel) (q5.below hI.bel) (T5.below hI.bel) (HV.out.below hI.bel) HLT.out HND.out hR hR hlenO)) (fun vd14 _=>?_);refine sRd ?_;refine sRc (fun wS hI Gk hG=>by go_simp;exact ck hG (zHO _ _ R R bn _ _ bsv _ _ _ (HVR.out.below hI.bel) (q5.below hI.bel) (T5.below hI.bel) (HV.out.below hI.bel) HLT.out HND.out hR hR hlenO)) (fun vd21 _=>?_);refine sRc (fun wS hI hd21 Gk hG=>by go_simp;exact ck hG (zRT hB.bsm hd21 hlenO HLT.out HOX.out.2.2 hR)) (fun vd22 _=>?_);refine sRc (fun wS hI hd7 hd14 hd22 Gk hG=>?_) (fun vd23 _=>?_)
 ·obtain⟨xo,xc,rfl,hd7⟩:=hd7
  obtain⟨yo,yc,rfl,hd14⟩:=hd14;obtain⟨zo,zc,rfl,hd22⟩:=hd22;go_simp;exact⟨hG _ _ ⟨xo,xc,yo,yc,zo,zc,rfl,hd7,hd14,hd22⟩,zA _ _⟩
 refine sRe ?_;intro w9 hbw9 hd7 hd14 hd21 hd22 hd23;obtain⟨xo,xc,yo,yc,zo,zc,rfl,h7,h14,h22⟩:zWg R C (os.map fun i=>qZ C (y.s i)) (os.map fun i=>qZ R (y.t i)) (genM R R fun a b=>y.i (os.getD b 0) a) w9 vd23:=hd23;have br:=br.below hbw9;have hB9:=nx hBr hbw9;have H7:=xgv h7;have H14:=xgv h14;have H22:=xgv h22;obtain⟨⟨r0,r1,r2,r3,r4,r5,r6,r7,r8⟩,⟨f0,f1,f2,f3,f4,f5,f6,f7,f8⟩⟩:=br.all9;clear h7 h14 h22 hd7 hd14 hd21 hd22 g1 g2 g3 n1 k1 k2 k3;go_wp2;have hxr:=br.lext9 dE (.int .i64 R) (.int .i64 C) (.slice xo R xc) (.int .i64 R) (.int .i64 R) (.slice yo R yc) (.int .i64 R) (.int .i64 R) (.slice zo R zc);have offr:∀{v:Value} {M:List (List Int)},zBq w9 v M->zBq _ v M:=fun h=>h.off br dE dE (fun b hb=>zVc w9 (w.heap.size+1) b _ _ _ _ _ _ _ _ _ hb) hxr
 refine bodyPost_ret (results_cell_row rfl _ _ (w.heap.size+1) _ _ _ _ rfl (br.put9 _ _ _ _ _ _ _ _ _) Tryz.underlying108 rfl (by rw[Tryz.sizeHe];rfl)) rfl ⟨_,y,Lp,rfl,HJY.out,by rw[HOSE.out];exact hlenO,by rw[HOSE.out];exact⟨_,_,_,rfl,offr H7.out,offr H14.out,offr H22.out⟩,zYK hB9 oM _ _ _ _ _ _ _ _ _⟩
structure zE4(R C r:Nat)(c:Nat->Nat)(A H U V:Nat->Nat->Int):Prop where
 hnf:Hnf C R r c H
 mul:∀a,a<R->∀b,b<C->H a b=zT R fun t=>U a t*A t b
 inv:∀a,a<R->∀b,b<R->zT R (fun t=>U a t*V t b)=idf a b
 back:∀a,a<R->∀b,b<C->A a b=zT R fun t=>V a t*H t b
theorem zE4.sp{A:Nat->Nat->Int}(h:zE4 R C r c A H U V):zKB R C H A:=⟨V,h.back⟩
theorem zNE{σ:Nat->Nat}(f:Nat->Int)(hlt:∀k,k<n->σ k<n)(hinj:∀a b,a<n->b<n->σ a=σ b->a=b)(hsur:∀t,t<n->∃k,k<n/\σ k=t):zT n f=zT n fun k=>f (σ k):=by
 have h1:zT n f=zT n fun t=>zT n fun k=>if σ k=t then f t else 0:=zF fun t ht=>by
  obtain⟨k,hk,e⟩:=hsur t ht;rw[zAB (c:=k) hk (fun i hi hne=>if_neg fun e2=>hne (hinj i k hi hk (e2.trans e.symm))),if_pos e]
 rw[h1,zBj];refine zF fun k hk=>?_
 rw[zAB (c:=σ k) (hlt k hk) (fun i hi hne=>if_neg fun e=>hne e.symm),if_pos rfl]
theorem zE4.sp'{A:Nat->Nat->Int}(h:zE4 R C r c A H U V):zKB R C A H:=⟨U,h.mul⟩
theorem zVM{L:List (Nat × Nat)}(hz:∀a,a<n->(∀k,k<L.length->(L.getD k (0,0)).1≠a)->lead C F a<0)(ha:a<n):a∈zMA n C F L:=by
 by_cases hm:a∈L.map (·.1)
 ·exact List.mem_append.2 (.inl hm)
 refine List.mem_append.2 (.inr ?_);simp only[List.mem_filter,List.mem_range,decide_eq_true_eq];refine⟨ha,hz a ha fun k hk e=>hm ?_⟩;rw[<-e,xgb,xga hk];exact List.mem_map.2 ⟨_,zAd hk,rfl⟩
def zG1(n C:Nat)(F:Nat->Nat->Int)(L:List (Nat × Nat))(a:Nat):Nat:=(zMA n C F L).getD a 0
theorem zGd{L:List (Nat × Nat)}(hk:k<L.length):zG1 n C F L k=zBx L k:=by
 unfold zG1 zMA zBx;rw[xgb,List.getElem?_append_left (by simpa using hk),List.getElem?_map,xga hk,xgb,xga hk];rfl
theorem zS8{L:List (Nat × Nat)}(h1:L.length<=k)(h2:k<(zMA n C F L).length):lead C F (zG1 n C F L k)<0:=by
 unfold zG1;have e:(zMA n C F L)[k]?=((List.range n).filter fun i=>decide (lead C F i<0))[k-L.length]?:=by
  unfold zMA;rw[List.getElem?_append_right (by simpa using h1)];simp
 rw[xgb,xga h2];rw[xga h2]at e;have:=xgd e.symm;simp only[List.mem_filter,decide_eq_true_eq]at this;exact this.2
theorem zLX{Ct M0:Nat}{A:Nat->Nat->Int}{y:Bst}{L:List (Nat × Nat)}(h:JC R C Ct M0 ⟨A,idf,idf⟩ R g y L)(hred:zFr (fun _ _=>True) L.length (zGQ L) (vw (zBx L) y.s))(hlen:(zMA R C y.s L).length=R):
  zE4 R C L.length (zGQ L) A (fun a b=>y.s (zG1 R C y.s L a) b) (fun a b=>y.t (zG1 R C y.s L a) b) (fun a b=>y.i (zG1 R C y.s L b) a):=by
 obtain⟨l,hl,hy⟩:=h.ops;rw[zIH]at hy;have hs:y.s=zBI l A:=by rw[hy]
 have ht:y.t=zBI l idf:=by rw[hy]
 have hi:y.i=zNb l idf:=by rw[hy]
 have hlok:=h.lok (xgf _);have hz:∀a,a<R->(∀k,k<L.length->(L.getD k (0,0)).1≠a)->lead C y.s a<0:=fun a ha hn=>by
  rw[zGY (h.zero a ha hn)];decide
 have olt:∀a,a<R->zG1 R C y.s L a<R:=fun a ha=>by
  unfold zG1;rw[xgb,xga oM];exact zLv hlok _ (zAd _)
 have oinj:∀a b,a<R->b<R->zG1 R C y.s L a=zG1 R C y.s L b->a=b:=fun a b ha hb e=>by
  unfold zG1 at e;rw[xgb,xga oM,xgb,xga oM]at e;exact(yZ (h₀:=by omega) (h₁:=by omega) (zII hlok)).1 e
 have osur:∀t,t<R->∃a,a<R/\zG1 R C y.s L a=t:=fun t ht=>by
  obtain⟨a,ha,e⟩:=qW (zVM hz ht);refine⟨a,oM,?_⟩;unfold zG1;rw[xgb,xga ha];exact e
 refine⟨⟨zB h.len (xgf _),⟨h.ech.lt,fun k hk=>?_,fun k hk t ht=>?_,h.ech.inc⟩,fun i j hij hj _=>?_,fun a h1 h2 t ht=>?_⟩,fun a ha b hb=>?_,fun a ha b hb=>?_,?_⟩
 ·show 0<y.s (zG1 R C y.s L k) (zGQ L k)
  rw[zGd hk];exact h.ech.pos k hk
 ·show y.s (zG1 R C y.s L k) t=0
  rw[zGd hk];exact h.ech.zero k hk t ht
 ·show 0<=y.s (zG1 R C y.s L i) (zGQ L j)/\y.s (zG1 R C y.s L i) (zGQ L j)<y.s (zG1 R C y.s L j) (zGQ L j)
  rw[zGd oM,zGd hj];exact hred i j hij hj trivial
 exact zHg (zS8 h1 oM) t ht
 ·show y.s (zG1 R C y.s L a) b=zT R fun t=>y.t (zG1 R C y.s L a) t*A t b
  rw[ht];conv=>lhs;rw[show y.s (zG1 R C y.s L a) b=zBI l A (zG1 R C y.s L a) b from by rw[<-hs]]
  exact zLt hl A _ (olt a ha) b
 ·show zT R (fun t=>y.t (zG1 R C y.s L a) t*y.i (zG1 R C y.s L b) t)=idf a b
  rw[ht,hi];have:=zJl hl (P:=idf) (Q:=idf) (C:=R) (fun a ha b hb=>zJS R a ha b hb) _ (olt a ha) _ (olt b hb);unfold dot at this;rw[this];unfold idf;by_cases e:a=b
  ·rw[if_pos e,if_pos (by rw[e])]
  rw[if_neg e,if_neg (fun e2=>e (oinj a b ha hb e2))]
 intro a ha b hb;show A a b=zT R fun t=>y.i (zG1 R C y.s L t) a*y.s (zG1 R C y.s L t) b
 rw[<-zNE (σ:=zG1 R C y.s L) (fun t=>y.i t a*y.s t b) olt oinj osur,hi,hs];exact zEv hl A a ha b
theorem zI5(h:os.length=n):(os.map fun i=>qZ C (F i))=genM n C fun a b=>F (os.getD a 0) b:=by
 refine qT (by simp[genM,h]) fun i h1 h2=>?_
 simp only[List.length_map]at h1;simp only[genM,qZ,List.getElem_map,List.getElem_range];rw[xgb,xga h1];rfl
theorem zX5:∃n:Nat,n=B32^zUN:=⟨_,rfl⟩
noncomputable def BD:Nat:=zX5.choose
theorem zUS:BD=B32^zUN:=zX5.choose_spec
theorem zKO:BSd BD:=⟨fun z hz=>by rw[zUS]at hz;exact⟨hz⟩⟩
theorem zX7:∃n:Nat,n=2^40:=⟨_,rfl⟩
noncomputable def E40:Nat:=zX7.choose
theorem zGe{D:Nat}(h:a<=32*D):2^a<=B32^D:=by
 rw[show B32=2^32 from rfl,<-jO];exact zQ oM h
theorem zSX(n M:Nat)(h:1<=M):leM M n n idf:=fun a _ b _=>by
 unfold idf;split<;>simp<;>omega
theorem zHX{A:Nat->Nat->Int}(σ τ:Nat->Nat)(hσ:∀a,a<n->σ a<n)(hτ:∀a,a<n->τ a<n):det n A∣det n fun a b=>A (σ a) (τ b):=by
 refine zF2 (R:=n) (C:=n) (F:=A) (fun σ τ hσ hτ hi hj=>?_) σ τ hσ hτ;have idn:∀σ:Nat->Nat,(∀a,a<n->σ a<n)->Inc n σ->∀a,a<n->σ a=a:=fun σ hσ hi a ha=>by
  have h1:=hi.le a ha;have h2:∀j,a+j<n->σ a+j<=σ (a+j):=fun j=>by
   induction j with
   |zero=>intro _;exact xgf _
   |succ j ih=>
    intro hj;have h3:=hi (a+j) oM;have h4:=ih oM;have h5:a+(j+1)=a+j+1:=rfl;rw[h5];omega
  have h3:=h2 (n-1-a) oM;have h4:=hσ (a+(n-1-a)) oM;omega
 have he:det n (fun a b=>A (σ a) (τ b))=det n A:=zAe fun a ha b hb=>by rw[idn σ hσ hi a ha,idn τ hτ hj b hb]
 rw[he];exact zAM _
def qAm(n:Nat)(F:Nat->Nat->Int)(j:Nat):Int:=zT j fun t=>sg1 t*(F 0 t*det n (mnr F 0 t))
def gx(E M:Nat):Nat:=(2*M)^E/2
structure zWh(n C:Nat)(x0:Bst)(c r:Nat)(κ:Nat->Nat)(x:Bst):Prop where
 ops:∃l,jS n l/\x=zCO l x0
 rn:r<=n
 ech:Ech C r κ x.s
 lt:∀k,k<r->κ k<c
 red:zFr (fun _ _=>True) r κ x.s
 zero:∀a,r<=a->a<n->∀t,t<c->t<C->x.s a t=0
section
variable {n C Ct M0 B:Nat} {x0 x:Bst} {c r:Nat} {κ:Nat->Nat}
structure KI(n C Ct b0:Nat)(x0:Bst)(c r:Nat)(κ:Nat->Nat)(i:Nat)(x:Bst):Prop where
 core:zWh n C x0 c r κ x
 col:∀a,r<a->a<i->x.s a c=0
 same:x.s r c=0->leB b0 n C Ct x
def EBd(n C Ct m:Nat)(X Y:Int)(x:Bst):Prop:=
 leB m n C Ct x∨(0<=Y/\X.natAbs<=m/\Y.natAbs<=m/\leB (2*m*m) n C Ct x)∨(0<=X/\0<=Y/\∃a,1<=a/\leB a n C Ct x/\a<=gx 5 m/\a*(2*X.natAbs*Y.natAbs)<=gx 5 m)
def eE(n:Nat):Nat->Nat
 |0=>1
 |r+1=>eE n r*5^(n-(r+1))*2^r
def eI(n r i:Nat):Nat:=eE n r*5^(i-(r+1))
def KO(n C Ct M0:Nat)(x0:Bst)(c r:Nat)(κ:Nat->Nat)(x:Bst):Prop:=zWh n C x0 c r κ x/\leB (gx (eE n r) M0) n C Ct x
def KR(n C Ct M0:Nat)(x0:Bst)(c r:Nat)(κ:Nat->Nat)(i:Nat)(x:Bst):Prop:=KI n C Ct (gx (eE n r) M0) x0 c r κ i x/\leB (gx (eI n r i) M0) n C Ct x
def KEu(n C Ct M0:Nat)(x0:Bst)(c r:Nat)(κ:Nat->Nat)(i:Nat)(x:Bst):Prop:=KI n C Ct (gx (eE n r) M0) x0 c r κ i x/\EBd n C Ct (gx (eI n r i) M0) (x.s r c) (x.s i c) x
structure KD(n C Ct M0:Nat)(x0:Bst)(c r:Nat)(κ:Nat->Nat)(i:Nat)(x:Bst):Prop where
 core:zWh n C x0 c r κ x
 pos:0<x.s r c
 col:∀a,r<a->a<n->x.s a c=0
 red:∀a,a<i->0<=x.s a c/\x.s a c<x.s r c
 bd:leB (gx (eI n r n*2^i) M0) n C Ct x
end
end Go.Proofs.YtkidaebmhlijlaaGreat
