/- Joined. -/
import Derived.Test.YtkidaebmhlijlaaGreatE12
import Derived.Test.YtkidaebmhlijlaaGreatE16
import Derived.Test.YtkidaebmhlijlaaGreatE22
set_option linter.unusedVariables false
set_option linter.unusedSimpArgs false
set_option linter.unusedSectionVars false
set_option maxHeartbeats 16000000
set_option maxRecDepth 100000
variable{ops:Array Go.Oper}{cs:Array Go.Value}{M:List (List Int)}{bs os xs:List Nat}{B C R a b base g i k lo m n r:Nat}{c:Nat->Nat}{F H U V:Nat->Nat->Int}{o:Go.Oper}{T t:Go.TypeId}{A c0 c1 c10 c11 c12 c13 c14 c2 c3 c4 c5 c6 c7 c8 c9 d v:Go.Value}{w w':Go.World}
namespace Go.Proofs.YtkidaebmhlijlaaGreat
open Go.RowKit
def StH(lo R C:Nat)(F:Nat->Nat->Int):World->Value->Prop:=fun w v=>∃bs,Wri w v R C bs F/\∀b,Zn v bs b->lo<=b
def StM(lo R C:Nat)(F:Nat->Nat->Int):World->Value->Prop:=fun w v=>∃o c,v= .agg #[niq R,niq C,.slice o R c]/\StH lo R C F w (.slice o R c)
def qAT(R:Nat):World->Value->Prop:=fun w v=>zFZ w v R
def StB(lo R C:Nat)(F:Nat->Nat->Int):World->Value->Prop:=fun w v=>∃Ah Au Av,v= .agg #[Ah,Au,Av]/\StH lo R C F w Ah/\zFZ w Au R/\zFZ w Av R
def StP(lo R C:Nat)(F:Nat->Nat->Int):World->Value->Prop:=fun w v=>∃g Ah Au Av,v=ptq g 0/\lo<=g/\Blk w g tHW #[Ah,Au,Av]/\StH lo R C F w Ah/\zFZ w Au R/\zFZ w Av R
theorem StH.I(h:StH lo R C F w v)(c:BWq w w'):StH lo R C F w' v:=by
 obtain⟨bs,a,b⟩:=h;exact⟨bs,a.I c,b⟩
theorem zRU(d R C:Nat)(F:Nat->Nat->Int):zAj (StM d R C F):=fun _ _ _ x ⟨o,c,a,b⟩=>⟨o,c,a,b.I x⟩
theorem zRT(a R C:Nat)(F:Nat->Nat->Int):zAj (StH a R C F):=fun _ _ _ x h=>h.I x
theorem zRQ(R:Nat):zAj (qAT R):=fun _ _ _ x h=>zFZ.I h x
theorem zRS(h R C:Nat)(F:Nat->Nat->Int):zAj (StB h R C F):=fun _ _ _ x ⟨a,b,c,d,e,f,g⟩=>⟨a,b,c,d,e.I x,f.I x,g.I x⟩
theorem zLM(k R C:Nat)(F:Nat->Nat->Int):zAj (StP k R C F):=fun _ _ _ x ⟨g,a,b,c,e,d,j,f,h,i⟩=>⟨g,a,b,c,e,d,j.I x,f.I x,h.I x,i.I x⟩
theorem zMb(w:World)(n:Nat)(b:n<=1000000):zFZ (w.alloc (.cells (madeCells (Value.slice none 0 0).cells (n*1)) tR)) (.slice (some ⟨w.heap.size,0,none⟩) n n) n:=by
 refine⟨_,_,_,rfl,xgf _,oM,yG _ _ _,fun i a=>?_⟩;unfold madeCells;rw[Array.getElem?_eq_getElem (by simp;omega)];simp[Value.cells,Nat.mod_one]
theorem zNe(w:World)(n:Nat)(a:n<=1000000):zFZ (w.alloc (.cells (madeCells #[Value.slice none 0 0] n) tR)) (.slice (some ⟨w.heap.size,0,none⟩) n n) n:=by
 have h:=zMb w n a;rw[jS]at h;exact h
theorem zYJ(u:BSm B)(v f:Value)(M:List (List Int))(R C k:Nat)(w:World)(h:zG3 w v R C M)(hF:zBW R C M)(D:jE w f 1)(y:R<=1000000)(x:C<=1000000)(F:okF B R C (ent M))(I:Sm 1)(E:k<=w.heap.size):
  CPq 114 #[v,f] w fun e w'=>∃v,e= .returned v/\StM k R C (ent M) w' v/\BWq w w':=by
 refine(zLX v f M R C 1 w h hF D y x ?_ I).mono fun e w' a=>?_
 .intro r a z H
  obtain⟨i,g,n⟩:=qZ a;obtain⟨j,A,p⟩:=qZ H;have l:M[i]?=some r:=by rw[xga g,n]
  have m:r[j]?=some z:=by rw[xga A,p]
  have J:=hF.2 r a;have:=F i (by rw[<-hF.1];exact g) j oM;rw[zFE l m]at this;exact u.sm _ this
 have G:genM R C (fun i j=>1*ent M i j)=genM R C (ent M):=jX fun i _ j _=>zAG _
 rw[G]at a;obtain⟨v,rfl,⟨o,c,bs,q,s,t⟩,d⟩:=zDl.within a;exact⟨v,rfl,⟨o,c,q,bs,s,fun b d=>zD E (t b d).1⟩,d⟩
theorem zN2(hB:BSm B)(v:Value)(M:List (List Int))(R C:Nat)(w:World)(h:zG3 w v R C M)(hF:zBW R C M)(m:R<=1000000)(hC:C<=1000000)(J:okF B R C (ent M))(K:Sm 1):
  CPq 99 #[v] w fun e w'=>∃v,e= .returned v/\StP w.heap.size R C (ent M) w' v/\BWq w w':=by
 have G:=h;obtain⟨A,rfl,h⟩:=h;obtain⟨ao,n,b2,rfl,F,e3,e4,-⟩:=id h;obtain rfl:R=n:=by rw[<-F,hF.1]
 have N:=xgv hF;have O:=xgv J;have L:=xgv G;have P:=xgv K;clear J G hF F K;go_enter Tryz.func99,Tryz.ntmps99;go_upto_region 1 with(fail)
 refine zF ?_;intro d H;obtain⟨t,S,b8⟩:=qJ H;obtain⟨c1,c2,c3,c4,c5,c6⟩:=S.three;have b3:=zRU d.heap.size R C (ent M);have b4:=zRT d.heap.size R C (ent M);have b5:=zRQ R;have b6:=zRS d.heap.size R C (ent M);have b7:=zLM d.heap.size R C (ent M);have a4:=fun W=>mkR (R:Int) R rfl oM W
 clear H;refine yA 12 [pcI 1 (1),pcD 2 [1] (StM d.heap.size R C (ent M)),pcD 3 [2] (StH d.heap.size R C (ent M)),pcD 6 [] (qAT R),pcD 9 [] (qAT R),pcD 10 [3,6,9] (StB d.heap.size R C (ent M)),pcD 11 [10] (StP d.heap.size R C (ent M))] ?_;refine sRd ?_;refine sRc (fun a hI i f=>by go_simp;exact ck f (zGt 1 _ oM oM)) (fun c0 _=>?_);refine sRc (fun a hI I i f=>by go_simp;exact ck f (zYJ hB _ _ M R C d.heap.size _ ((L.out.I t).I hI.bel) N.out I m hC O.out P.out hI.bel.size)) (fun a7 _=>?_);refine sRc (fun a hI x i f=>?_) (fun a8 _=>?_)
 .obtain⟨o,c,rfl,a0⟩:StM d.heap.size R C (ent M) a a7:=x
  go_simp;exact⟨f _ _ a0,zC _ _⟩
 refine sRd ?_;refine sRc (fun a hI i f=>?_) (fun a9 _=>?_)
 .go_simp
  exact⟨f _ _ (by first|exact zMb a R m|exact zNe a R m),(zC _ _).alloc (xgf _) _⟩
 refine sRd ?_;refine sRc (fun a hI i f=>?_) (fun b0 _=>?_)
 .go_simp
  exact⟨f _ _ (by first|exact zMb a R m|exact zNe a R m),(zC _ _).alloc (xgf _) _⟩
 refine sRc (fun a hI y z D i f=>?_) (fun a5 _=>?_)
 .have j:StH d.heap.size R C (ent M) a a8:=y
  have k:zFZ a a9 R:=z;have l:zFZ a b0 R:=D;obtain⟨Q,s,a1⟩:=id j;obtain⟨o3,c3,rfl⟩:=s.shape;obtain⟨Y,c6,_,rfl,-⟩:=id k;obtain⟨Z,c9,_,rfl,-⟩:=id l;go_simp;exact⟨f _ _ ⟨_,_,_,rfl,j,k,l⟩,zC _ _⟩
 refine sRc (fun a hI u i f=>?_) (fun a6 _=>?_)
 .obtain⟨p,q,r,rfl,j,k,l⟩:StB d.heap.size R C (ent M) a a5:=u
  have E:=(zC a.heap.size a).alloc (xgf _) (.cells #[p,q,r] tHW);obtain⟨Q,s,a1⟩:=id j;obtain⟨o3,c3,rfl⟩:=s.shape;obtain⟨Y,c6,_,rfl,-⟩:=id k;obtain⟨Z,c9,_,rfl,-⟩:=id l;go_simp;exact f _ _ ⟨_,_,_,_,rfl,hI.bel.size,yG _ _ _,j.I E,k.I E,l.I E⟩
 refine sRe ?_;intro w2 a3 I x y z D u a2;obtain⟨g,p,q,r,rfl,g1,T,U,V,X⟩:StP d.heap.size R C (ent M) w2 a6:=a2;obtain⟨bs,k1,k2⟩:=U;have b9:=t.size;clear c1 c2 c3 c4 c5 c6 a4 u D z y x;go_wp2;go_ret;exact⟨_,rfl,⟨g,p,q,r,rfl,oM,T,⟨bs,k1,fun b hb=>by have:=k2 b hb;omega⟩,V,X⟩,nx t a3⟩
structure zEK(w:World)(base:Nat)(A:Value)(C:Nat)(bs:List Nat)(M:List (List Int)):Prop where
 own:w.ownsRow base tR 1 A bs.length (zBV C bs)
 len:M.length=bs.length
 row:∀(k:Nat) (b:Nat) (r:List Int),bs[k]?=some b->M[k]?=some r->r.length=C/\jY w b r
 nodup:bs.Nodup
 cb:C<=1099511627776
theorem zEK.rows0(h:zEK w base A C bs M):qH w 0 A C bs M:=by
 refine⟨⟨h.own.1,?_⟩,h.len,fun k b r d e=>⟨zH _,h.row k b r d e⟩,h.nodup,h.cb⟩;rcases h.own.2 with f|⟨g,a,c,rfl,j,i⟩
 exact .inl f;exact .inr ⟨g,a,c,rfl,zH _,i⟩
theorem zEK.I(h:zEK w base A C bs M)(a:BWq w w'):zEK w' base A C bs M:=
 ⟨h.own.kept (row:=none) ⟨a.os,a.tape,a.output,a.size,fun k g _=>a.block k g⟩ (by cases i:A.ownBlock<;>simp),h.len,fun k b r e f=>by
  obtain⟨c,d⟩:=h.row k b r e f;exact⟨c,d.I a⟩,h.nodup,h.cb⟩
theorem zEK.nil(w:World)(base C:Nat)(c:C<=1099511627776):zEK w base (.slice none 0 0) C [] []:=⟨⟨rfl,.inl ⟨rfl,rfl⟩⟩,rfl,fun k b r a=>by simp at a,by simp,c⟩
theorem zEK.ownb(h:zEK w base A C bs M):∀g,A.ownBlock=some g->base<=g/\g<w.heap.size:=zDa h.own
theorem zEK.mono(h:zEK w base A C bs M)(f:a<=base):zEK w a A C bs M:=by
 refine⟨⟨h.own.1,?_⟩,h.len,h.row,h.nodup,h.cb⟩;rcases h.own.2 with d|⟨g,b,c,rfl,i,e⟩
 exact .inl d;exact .inr ⟨g,b,c,rfl,oM,e⟩
theorem zEK.off(h:zEK w base A C bs M)(p:Blk w g T cs)(o:¬ T=tI)(v:g<base)(d:∀k,k≠g->w'.heap[k]?=w.heap[k]?)(q:zBq w w'):zEK w' base A C bs M:=by
 refine⟨⟨h.own.1,?_⟩,h.len,fun k b r l m=>?_,h.nodup,h.cb⟩
 .rcases h.own.2 with n|⟨c,f,i,rfl,s,t,u⟩
  .exact .inl n
  exact .inr ⟨c,f,i,rfl,s,(d c oM).trans t,u⟩
 obtain⟨j,a⟩:=h.row k b r l m;exact⟨j,a.old (d b (fun e=>zM9 p a o e.symm)) q⟩
theorem zEK.shape(h:zEK w base A C bs M):∃o n c,A= .slice o n c:=by
 rcases h.own.2 with⟨rfl,-⟩|⟨g,a,b,rfl,-⟩
 exact⟨_,_,_,rfl⟩;exact⟨_,_,_,rfl⟩
theorem qA9{w:World}{ops:Array Oper}{rest:List Oper}{a:Act}{Q:Exit->Act->World->Prop}(K:o.guard=none)(s x:Operand)
  (O:o.op= .call {callee:=.builtin .append,args:=#[s,x],argTypes:=#[30,30]})
  (base:Nat) (v:Value) (C:Nat) (f:List Nat) (M:List (List Int)) (S:a.eval s=v) (d:zEK w base v C f M) (b c l:Nat) (r:List Int) (m:a.eval x=slq b 1 c)
  (H:Blk w b tR #[slq l C C]) (P:jY w l r) (R:r.length=C) (J:∀g∈f,g≠l)
  (Y:f.length+1<=1099511627776) (I:base<=w.heap.size)
  (h:∀n w',zEK w' base n C (f++ [l]) (M++ [r])->w.grownBy w' v.ownBlock->zBq w w'->wpList Tryz.prog ops Q rest (a.put o.dst n) w'):wpList Tryz.prog ops Q (o::rest) a w:=by
 obtain⟨W,L,T,U,V⟩:=info_parts zDp;have c0:=H.cell 0;refine wpList_append_own w K s x 30 O base tR W _ 1 24 zA5 L T U V rfl oM v f.length _ S d.own ⟨b,0,none⟩ 1 c [slq l C C] m rfl ?_ ?_ (by simp[maxLen];omega) oM I ?_
 .intro j u p
  rw[zAg];match j with
  |0=>simp at p;subst p;exact c0
  |j+1=>simp at p
 .intro u D
  simp at D;subst D;rfl
 intro n w' X t _;have m:=zEf d.own dE t;have A:∀g q,jY w g q->jY w' g q:=fun g q e=>e.old (t.block g e.lt (zGw d.own e)) m
 refine h n w' ⟨?_,by simp[d.len],?_,?_,d.cb⟩ t m
 .have:zBV C (f++ [l])=zBV C f++ [slq l C C]:=by simp[zBV]
  rw[this];simpa using X
 .intro k g q i e
  rcases zK k f.length with B|z
  .rw[List.getElem?_append_left B]at i
   rw[List.getElem?_append_left (by rw[d.len];exact B)]at e;obtain⟨F,G⟩:=d.row k g q i e;exact⟨F,A _ _ G⟩
  rw[List.getElem?_append_right z]at i;rw[List.getElem?_append_right (by rw[d.len];exact z),d.len]at e;have N:k-f.length=0:=by
   have:=(xge.1 i).1;simp at this;omega
  rw[N]at i e;simp at i e;subst i;subst e;exact⟨R,A _ _ P⟩
 rw[jG];refine⟨d.nodup,by simp,fun x m y E=>?_⟩;simp at E;subst E;exact J x m
theorem zFz.cell(h:zFz w base v xs){x:Nat}(c:xs[k]?=some x):∃g b,v= .slice (some ⟨g,0,none⟩) xs.length b/\g<w.heap.size/\w.cell? ⟨g,k,none⟩=some (.int .i64 x):=by
 rcases h.2.2 with⟨rfl,f⟩|⟨g,b,e,rfl,l,d,m,j,o,i⟩
 .rw[qL f]at c
  simp at c
 refine⟨g,b,rfl,(Array.getElem?_eq_some_iff.1 d).1,?_⟩;rw[cell_of_row w g k e tNn _ d];have a:(xs.map fun n=>Value.int .i64 (n:Nat))[k]?=some (.int .i64 (x:Nat)):=by simp[c]
 rw[<-i,List.getElem?_take]at a;split at a;simpa using a;cases a
abbrev SlR(b C:Nat):World->Value->Prop:=fun w v=>∃g,v=slq g 1 1/\Blk w g tR #[slq b C C]
theorem zLL(b C:Nat):zAj (SlR b C):=fun _ _ _ x ⟨g,a,c⟩=>⟨g,a,c.I x⟩
theorem zPJ(U ov:Value)(n Cs nb ob base:Nat)(c a:List Nat)(F:Nat->Nat->Int)(w:World)(P:Wri w U n Cs c F)(a1:Blk w nb 3 #[.int .i64 n])(a4:Blk w ob 96 #[ov])(N:zFz w base ov a)
  (a5:∀x∈a,x<n) (a2:a.Nodup) (hn:n<=1000000) (d5:Cs<=1000000) (d6:a.length<=n):
  CPq 150 #[U,.int .i64 Cs,.pointer (some ⟨nb,0,none⟩),.pointer (some ⟨ob,0,none⟩)] w fun e w'=>∃v W,e= .returned (.agg #[.int .i64 n,.int .i64 Cs,v])∧
   zEK w' w.heap.size v Cs W (a.map fun i=>yV Cs (F i))/\(∀b,b∈W->b∈c)/\BWq w w':=by
 have n0:=a1.cell 0;have o0:=a4.cell 0;obtain⟨so,sn,e9,rfl,s1,-⟩:=id (qH.rows P);have y:n=sn:=by rw[<-s1];simp[genM]
 subst y;obtain⟨ao,e8,rfl,-,-,-⟩:=N.at_;have e0:=a1.lt;have e7:=a4.lt;have l:=xgv P;have b2:=xgv N;have H:=xgv a5;have a9:=xgv a2;clear s1 P N a5 a2;go_enter Tryz.func150,Tryz.ntmps150;go_upto_region 2 with(fail)
 refine zF ?_;intro W0 Y;obtain⟨J,d,m,c7⟩:=zAU Y;have o0:=jP o0 J;clear Y n0;go_wp2;go_loopw [15] (fun Q wr=>∃(k:Nat) (v:Value),Q= .int .i64 k/\k<=a.length/\zEK wr (w.heap.size+2) v Cs ((a.take k).map fun i=>c.getD i 0) ((a.take k).map fun i=>yV Cs (F i))∧
  Blk wr w.heap.size 32 #[.int .i64 0,.int .i64 0,.slice none 0 0]/\Blk wr (w.heap.size+1) 32 #[.int .i64 n,.int .i64 Cs,v]/\BWq w wr) (fun Q _=>a.length-(intOf Q).toNat)
 case atStart=>exact⟨0,_,rfl,oM,zEK.nil _ _ _ oM,d,m,J⟩
 clear d m J c7;obtain⟨k,uv,rfl,hk,B,d,m,h⟩:=hrel;obtain⟨T,S,R,rfl⟩:=B.shape;have l7:=m.lt;by_cases a0:k<a.length
 .obtain⟨i,s⟩:∃i,a[k]?=some i:=⟨_,xga a0⟩
  have M:i<n:=H.out i (xgd s);obtain⟨og,oc,eo,lo,q0⟩:=(b2.out.I h).cell s;injection eo with b7 d3 d4
  subst b7;obtain⟨g,p,eg,lg,z,-,o1,-⟩:=qH.at_ (l.out.I h) (i:=i) (by rw[(l.out.I h).len];exact M);subst eg;have c6:=(l.out.I h).rowAt M z;obtain⟨-,-,I,-,-,-⟩:=m.three;have O:∀{d2:Type} (f:Nat->d2),(a.take (k+1)).map f=(a.take k).map f++ [f i]:=fun f=>by
   rw[jH,zBl,s];rfl
  have b3:=xgv (O fun i=>c.getD i 0);have b4:=xgv (O fun i=>yV Cs (F i));have Z:c.getD i 0=p:=by rw[xgb,z];rfl
  have a3:∀b∈(a.take k).map (fun i=>c.getD i 0),b≠p:=by
   intro b K c0;subst c0;obtain⟨j,A,he⟩:=List.mem_map.1 K;have u:j<c.length:=by rw[l.out.len];exact H.out j (zCj A)
   have c3:i<c.length:=by rw[l.out.len];exact M
   have X:c.getD j 0=c[j]:=by rw[xgb,xga u];rfl
   have y:c[i]=b:=(xge.1 z).2;have c4:j=i:=by
    have:=(jN (h₀:=u) (h₁:=c3) (qH.nodup l.out)).1 (by rw[<-X,y];exact he);exact this
   subst c4;obtain⟨t,c9,a7⟩:=qZ A;rw[zDD]at a7;have d9:t<k:=by simp at c9;omega
   have:=(jN (h₀:=(by omega:t<a.length)) (h₁:=a0) a9.out).1 (by rw[a7];exact(xge.1 s).2.symm);omega
  have d7:=zLL p Cs;have c1:((a.take k).map fun i=>c.getD i 0).length=k:=by simp;omega
  have b0:=xgv a3;have a8:=xgv Z;clear O a3 Z s z;go_upto_region 5 with(fail)
  refine yA 7 [pcD 6 [] (SlR p Cs)] ?_;refine sRd ?_;refine sRc (fun wS hI Gk hG=>?_) (fun d1 _=>?_)
  .go_simp
   exact⟨hG _ _ ⟨_,rfl,yG _ _ _⟩,(zC _ _).alloc (xgf _) _⟩
  refine sRe ?_;intro w5 q b9;obtain⟨gs,rfl,c8⟩:SlR p Cs w5 d1:=b9;have C:=B.I q;have V:=m.I q;have b5:=d.I q;have c5:=c6.I q;have b8:=nx h q;have d0:=V.lt;clear o1 I q0;go_wp2_with (at_builtin;refine qA9 rfl _ _ rfl (w.heap.size+2) (.slice T S R) Cs _ _ rfl C gs 1 p _ rfl c8 c5 (qN _ _) b0.out (by rw[c1];omega) oM ?_;intro v' w' a6 L d8;obtain⟨G,E,D,rfl⟩:=a6.shape;have o:=(L.block _ d0 (fun e=>by have:=(C.ownb _ e.symm).1;omega)).trans V;have b6:=(L.block _ oM (fun e=>by have:=(C.ownb _ e.symm).1;omega)).trans b5;obtain⟨f1,f2,I,f4,f5,f6⟩:=Blk.three (t:=32) o)
  go_roundw
  case rel=>
   have o:Blk w' (w.heap.size+1) 32 #[.int .i64 n,.int .i64 Cs,.slice T S R]:=o;have hX:zEK (w'.setCell ⟨w.heap.size+1,2,none⟩ (.slice G E D)) (w.heap.size+2) (.slice G E D) Cs ((a.take (k+1)).map fun i=>c.getD i 0) ((a.take (k+1)).map fun i=>yV Cs (F i)):=by
    rw[b3.out,b4.out,a8.out];exact a6.off o dE oM (fun b h=>qC _ _ _ b _ h) (o.lext dE _ _)
   refine⟨k+1,by simp,oM,.slice G E D,by simpa using hX,?_,?_,?_⟩;exact(qC _ _ _ _ _ oM).trans b6
   .have:=o.set_ 2 (.slice G E D)
    simpa using this
   exact yB (b8.grown L oM (fun g hg=>by have:=(C.ownb g hg).1;omega)) oM _ _
  case measure=>exact meq
 obtain rfl:k=a.length:=oM;obtain⟨f1,f2,I,f4,f5,f6⟩:=m.three;obtain⟨X,y,e3,e4,e5,e6⟩:=d.three;have l6:=d.lt;rw[jO]at B;go_wp2;refine zAD (r:=w.heap.size) rfl rfl rfl (d.put3 _ _ _) ⟨.slice T S R,_,rfl,(B.off d dE oM (fun b c2=>zAm _ _ b _ _ _ c2) (d.lext3 dE _ _ _)).mono oM,?_,?_⟩
 .intro b K
  obtain⟨j,A,rfl⟩:=List.mem_map.1 K;have u:j<c.length:=by rw[l.out.len];exact H.out j A
  rw[xgb,xga u];exact zAq u
 exact yB (yB (yB h oM _ _) oM _ _) oM _ _
structure AS where
 op:Nat
 slot:Nat
 m:MS
structure RX(W:World)(T0:Array Value)(vs:List VS)(ms:List MS)(al_:List AS)(L:Array Bool)(T:Array Value)(w:World):Prop where
 g:RG W T0 vs ms L T w
 wf:∀a∈al_,a.m∈ms/\∃s∈vs,s.op=a.op/\s.slot=a.slot
 al:∀a∈al_,L[a.op]?=some true->L[a.m.op]?=some true/\∃o c,T[a.m.slot]?=some (.agg #[niq a.m.R,niq a.m.C,.slice o a.m.R c])/\T[a.slot]?=some (.slice o a.m.R c)
section
variable {W:World} {T0:Array Value} {vs:List VS} {ms:List MS} {al_:List AS} {L:Array Bool} {T:Array Value} {w w':World}
theorem RX.start(c:zQt T0.size vs ms=true)(hv:∀s∈vs,zAj s.P)(b:∀a∈al_,a.m∈ms/\∃s∈vs,s.op=a.op/\s.slot=a.slot):RX W T0 vs ms al_ (Array.replicate n false) T0 W.drew:=
 ⟨RG.start c hv,b,fun a _ h=>by
  rw[Array.getElem?_replicate]at h;split at h<;>simp at h⟩
theorem RX.world(h:RX W T0 vs ms al_ L T w)(a:BWq w w'):RX W T0 vs ms al_ L T w':=⟨h.g.world a,h.wf,h.al⟩
theorem RX.value(h:RX W T0 vs ms al_ L T w)(s:VS)(d:s∈vs)(g:s.op=k)(n:s.P w v)(i:∀a∈al_,a.op≠k):RX W T0 vs ms al_ (L.setIfInBounds k true) (T.setIfInBounds s.slot v) w:=by
 obtain⟨y,C,D,E,j,F,G⟩:=h.g.parts;refine⟨h.g.value s d g n,h.wf,fun a b p=>?_⟩;subst g;obtain⟨f,t,r,l,m⟩:=h.wf a b;have q:L[a.op]?=some true:=zAE p (fun e=>i a b e.symm);obtain⟨z,o,c,A,B⟩:=h.al a b q;have u:s.slot≠a.m.slot:=(j s d _ f).1;have x:s.slot≠a.slot:=by
  rw[<-m];intro e;have:=yN y d r e;subst this;exact i a b l.symm
 refine⟨?_,o,c,by rw[xgc u];exact A,by rw[xgc x];exact B⟩;rw[xgc (j s d _ f).2];exact z
theorem RX.y(h:RX W T0 vs ms al_ L T w){s:VS}(e:s∈vs)(b:s.P w v)(d:∀a∈al_,a.op≠k)(c:s.op=k:=by rfl):RX W T0 vs ms al_ (L.setIfInBounds k true) (T.setIfInBounds s.slot v) w:=h.value s e c b d
theorem RX.alias(h:RX W T0 vs ms al_ L T w)(a:AS)(J:a∈al_)(s:VS)(d:s∈vs)(f:s.op=a.op)(A:s.slot=a.slot)(u:s.P w v)(z:L[a.m.op]?=some true)(x:∀b∈al_,b.op=a.op->b=a)
  {o:Option Addr} {c:Nat} (h1:T[a.m.slot]?=some (.agg #[niq a.m.R,niq a.m.C,.slice o a.m.R c])) (h2:v= .slice o a.m.R c):RX W T0 vs ms al_ (L.setIfInBounds a.op true) (T.setIfInBounds s.slot v) w:=by
 obtain⟨E,K,M,N,n,F,O⟩:=h.g.parts;refine⟨h.g.value s d f u,h.wf,fun b g y=>?_⟩;obtain⟨i,t,B,q,r⟩:=h.wf b g;have l:s.slot≠b.m.slot:=(n s d _ i).1;have m:s.op≠b.m.op:=(n s d _ i).2;by_cases j:b=a
 .subst j
  refine⟨by rw[xgc (by rw[<-f];exact m)];exact z,o,c,by rw[xgc l];exact h1,?_⟩;rw[<-A,Array.getElem?_setIfInBounds_self_of_lt (by rw[h.g.size];exact F _ d),h2]
 have k:b.op≠a.op:=fun e=>j (x b g e)
 obtain⟨G,D,p,H,I⟩:=h.al b g (zAE y (qF k));have C:s.slot≠b.slot:=by
  rw[<-r];intro e;have:=yN E d B e;subst this;exact k (q.symm.trans f)
 exact⟨by rw[xgc (by rw[<-f];exact m)];exact G,D,p,by rw[xgc l];exact H,by rw[xgc C];exact I⟩
theorem RX.mat(h:RX W T0 vs ms al_ L T w)(u:zC2 ops L)(g:L[k]?=some false)(m:MS)(b:m∈ms)(j:m.op=k)(s:BWq w w')(z:zFu m.R m.C m.F w.heap.size w'.heap.size w' v)
  (y:(ms.all fun m'=>!decide (k<m'.op)||zI9 ops 9 m'.op k)=true):RX W T0 vs ms al_ (L.setIfInBounds k true) (T.setIfInBounds m.slot v) w':=by
 obtain⟨I,J,E,F,p,K,M⟩:=h.g.parts;refine⟨h.g.mat u g m b j s z y,h.wf,fun a i x=>?_⟩;subst j;obtain⟨f,t,n,q,r⟩:=h.wf a i;have C:m.op≠a.op:=by rw[<-q];exact fun e=>(p t n m b).2 e.symm
 have D:m.slot≠a.slot:=by rw[<-r];exact fun e=>(p t n m b).1 e.symm
 obtain⟨d,o,c,G,H⟩:=h.al a i (zAE x C);have l:m≠a.m:=fun e=>by
  rw[<-e,g]at d;cases d
 have A:m.slot≠a.m.slot:=fun e=>l (yN E b f e)
 have B:m.op≠a.m.op:=fun e=>l (yN F b f e)
 exact⟨by rw[xgc B];exact d,o,c,by rw[xgc A];exact G,by rw[xgc D];exact H⟩
end
def RXS(W:World)(T0:Array Value)(vs:List VS)(ms:List MS)(al_:List AS)(q:Nat)(st:Array Value->World->World)(L:Array Bool)(T:Array Value)(w:World):Prop:=
 ∃w0,RX W T0 vs ms al_ L T w0/\(L[q]?≠some true->w=w0)/\(L[q]?=some true->w=st T w0)
section
variable {W:World} {T0:Array Value} {vs:List VS} {ms:List MS} {al_:List AS} {L:Array Bool} {T:Array Value} {w w':World} {q:Nat} {st:Array Value->World->World}
theorem RXS.start(h:RX W T0 vs ms al_ (Array.replicate n false) T0 W.drew):RXS W T0 vs ms al_ q st (Array.replicate n false) T0 W.drew:=
 ⟨_,h,fun _=>rfl,fun a=>by
  rw[Array.getElem?_replicate]at a;split at a<;>simp at a⟩
theorem RX.mark(h:RX W T0 vs ms al_ L T w)(i:∀s∈vs,s.op≠q)(f:∀m∈ms,m.op≠q):RX W T0 vs ms al_ (L.setIfInBounds q true) T w:=by
 obtain⟨l,B,p,r⟩:=h.g.gh;have d:∀m∈ms,(L.setIfInBounds q true)[m.op]?=some true->L[m.op]?=some true:=fun m c b=>zAE b (qF (f m c))
 refine⟨⟨h.g.wf,h.g.lv,h.g.size,h.g.keep,h.g.bel,fun s j b=>h.g.val s j (zAE b (qF (i s j))),l,B,fun m c b=>p m c (d m c b),fun m c k g u x y=>r m c k g u (d m c x) (d k g y)⟩,h.wf,fun a e b=>?_⟩;obtain⟨n,t,v,o,C⟩:=h.wf a e;obtain⟨z,A⟩:=h.al a e (zAE b (by rw[<-o];exact qF (i t v)));exact⟨by rw[xgc (qF (f _ n))];exact z,A⟩
theorem zAO.liftX{P:Program}{Q:Exit->Act->World->Prop}{b:List Deferred}{o:Oper}(m:zI9 ops 5 q i=true)(l:i≠q)
  (h:zAO P ops Q b (RX W T0 vs ms al_) i o):zAO P ops Q b (RXS W T0 vs ms al_ q st) i o:=by
 intro L T w c hd e hI K hK;obtain⟨p,j,k,n⟩:=hI;have d:L[q]?≠some true:=fun a=>by
  have:=zD7 e m a;rw[c]at this;cases this
 obtain rfl:=k d;exact h L T w c @hd e j K (fun f w' g=>hK f w' ⟨w',g,fun _=>rfl,fun a=>absurd (zAE a l) d⟩)
theorem RXS.step{b:Array Value}(h:RXS W T0 vs ms al_ q st L T w)(l:∀a,RX W T0 vs ms al_ L T a->RX W T0 vs ms al_ (L.setIfInBounds k true) b a)(i:k≠q)(j:∀w,st b w=st T w):RXS W T0 vs ms al_ q st (L.setIfInBounds k true) b w:=by
 obtain⟨a,d,e,f⟩:=h;exact⟨a,l a d,fun g=>e fun c=>g (zCK c),fun c=>(f (zAE c i)).trans (j a).symm⟩
theorem RXS.store(h:RX W T0 vs ms al_ L T w)(a:L[q]?=some false)(d:∀s∈vs,s.op≠q)(b:∀m∈ms,m.op≠q)(e:w'=st T w):RXS W T0 vs ms al_ q st (L.setIfInBounds q true) T w':=
 ⟨w,h.mark d b,fun c=>absurd (Array.getElem?_setIfInBounds_self_of_lt (Array.getElem?_eq_some_iff.1 a).1) c,fun _=>e⟩
theorem RXS.here(h:RXS W T0 vs ms al_ q st L T w)(c:L[q]?=some false):RX W T0 vs ms al_ L T w:=by
 obtain⟨d,a,b,-⟩:=h;obtain rfl:=b (by rw[c];simp);exact a
end
theorem RG.five{W:World}{T0:Array Value}{vs:List VS}{L:Array Bool}{T:Array Value}{w:World}{g c d e i o p q r s R C Cu Cw:Nat}{j k l m n:Nat->Nat->Int}
  (h:RG W T0 vs [⟨g,o,R,C,j⟩,⟨c,p,R,Cu,k⟩,⟨d,q,R,Cu,l⟩,⟨e,r,C,Cw,m⟩,⟨i,s,C,Cw,n⟩] L T w) (o1:g<c) (o2:c<d) (o3:d<e) (o4:e<i)
  (F:L[g]?=some true) (G:L[c]?=some true) (H:L[d]?=some true) (I:L[e]?=some true) (J:L[i]?=some true):
  ∃M K O N Q P S wc V U,T[o]?=some (.agg #[niq R,niq C,.slice M R K])/\T[p]?=some (.agg #[niq R,niq Cu,.slice O R N])/\T[q]?=some (.agg #[niq R,niq Cu,.slice Q R P])∧
   T[r]?=some (.agg #[niq C,niq Cw,.slice S C wc])/\T[s]?=some (.agg #[niq C,niq Cw,.slice V C U])∧
   zMz W.heap.size R C Cu Cw ⟨j,k,l,m,n⟩ w (.agg #[niq R,niq C,.slice M R K,niq R,niq Cu,.slice O R N,niq R,niq Cu,.slice Q R P,niq C,niq Cw,.slice S C wc,niq C,niq Cw,.slice V C U]):=by
 obtain⟨c0,c4,E,a⟩:=h.gh;have t:(⟨g,o,R,C,j⟩:MS)∈ [(⟨g,o,R,C,j⟩:MS),⟨c,p,R,Cu,k⟩,⟨d,q,R,Cu,l⟩,⟨e,r,C,Cw,m⟩,⟨i,s,C,Cw,n⟩]:=by simp
 have u:(⟨c,p,R,Cu,k⟩:MS)∈ [(⟨g,o,R,C,j⟩:MS),⟨c,p,R,Cu,k⟩,⟨d,q,R,Cu,l⟩,⟨e,r,C,Cw,m⟩,⟨i,s,C,Cw,n⟩]:=by simp
 have v:(⟨d,q,R,Cu,l⟩:MS)∈ [(⟨g,o,R,C,j⟩:MS),⟨c,p,R,Cu,k⟩,⟨d,q,R,Cu,l⟩,⟨e,r,C,Cw,m⟩,⟨i,s,C,Cw,n⟩]:=by simp
 have x:(⟨e,r,C,Cw,m⟩:MS)∈ [(⟨g,o,R,C,j⟩:MS),⟨c,p,R,Cu,k⟩,⟨d,q,R,Cu,l⟩,⟨e,r,C,Cw,m⟩,⟨i,s,C,Cw,n⟩]:=by simp
 have y:(⟨i,s,C,Cw,n⟩:MS)∈ [(⟨g,o,R,C,j⟩:MS),⟨c,p,R,Cu,k⟩,⟨d,q,R,Cu,l⟩,⟨e,r,C,Cw,m⟩,⟨i,s,C,Cw,n⟩]:=by simp
 obtain⟨X,a2,_,Y,M,K,bS,rfl,Z,z⟩:=E _ t F;obtain⟨b1,b2,_,b3,O,N,bU,rfl,b5,A⟩:=E _ u G;obtain⟨c1,c2,_,c3,Q,P,bV,rfl,c5,c6⟩:=E _ v H;obtain⟨d1,d2,_,d3,S,wc,bW,rfl,d5,B⟩:=E _ x I;obtain⟨e1,e2,_,e3,V,U,bX,rfl,e5,D⟩:=E _ y J;have a0:=a _ t _ u o1 F G;have a4:=a _ t _ v (by dsimp only;omega) F H;have a7:=a _ t _ x (by dsimp only;omega) F I;have a8:=a _ t _ y (by dsimp only;omega) F J;have a9:=a _ u _ v (by dsimp only;omega) G H;have b0:=a _ u _ x (by dsimp only;omega) G I;have b4:=a _ u _ y (by dsimp only;omega) G J;have b7:=a _ v _ x (by dsimp only;omega) H I;have b8:=a _ v _ y (by dsimp only;omega) H J;have b9:=a _ x _ y (by dsimp only;omega) I J;refine⟨M,K,O,N,Q,P,S,wc,V,U,Y,b3,c3,d3,e3,⟨M,K,O,N,Q,P,S,wc,V,U,bS,bU,bV,bW,bX,rfl,Z,b5,c5,d5,e5,?_,zCS z A a0,zCS z c6 a4,zCS z B a7,zCS z D a8,zCS A c6 a9,zCS A B b0,zCS A D b4,zCS c6 B b7,zCS c6 D b8,zCS B D b9⟩⟩;rintro b (f|f|f|f|f);exact zD X (z b f).1;exact zD b1 (A b f).1;exact zD c1 (c6 b f).1;exact zD d1 (B b f).1;exact zD e1 (D b f).1
theorem Blk.all15(h:Blk w g t #[c0,c1,c2,c3,c4,c5,c6,c7,c8,c9,c10,c11,c12,c13,c14]):
  (w.cell? ⟨g,0,none⟩=some c0/\w.cell? ⟨g,1,none⟩=some c1/\w.cell? ⟨g,2,none⟩=some c2/\w.cell? ⟨g,3,none⟩=some c3/\w.cell? ⟨g,4,none⟩=some c4/\w.cell? ⟨g,5,none⟩=some c5/\w.cell? ⟨g,6,none⟩=some c6/\w.cell? ⟨g,7,none⟩=some c7/\w.cell? ⟨g,8,none⟩=some c8/\w.cell? ⟨g,9,none⟩=some c9/\w.cell? ⟨g,10,none⟩=some c10/\w.cell? ⟨g,11,none⟩=some c11/\w.cell? ⟨g,12,none⟩=some c12/\w.cell? ⟨g,13,none⟩=some c13/\w.cell? ⟨g,14,none⟩=some c14)/\(w.frozen? ⟨g,0,none⟩=false/\w.frozen? ⟨g,1,none⟩=false/\w.frozen? ⟨g,2,none⟩=false/\w.frozen? ⟨g,3,none⟩=false/\w.frozen? ⟨g,4,none⟩=false/\w.frozen? ⟨g,5,none⟩=false/\w.frozen? ⟨g,6,none⟩=false/\w.frozen? ⟨g,7,none⟩=false/\w.frozen? ⟨g,8,none⟩=false/\w.frozen? ⟨g,9,none⟩=false/\w.frozen? ⟨g,10,none⟩=false/\w.frozen? ⟨g,11,none⟩=false/\w.frozen? ⟨g,12,none⟩=false/\w.frozen? ⟨g,13,none⟩=false/\w.frozen? ⟨g,14,none⟩=false):=
 ⟨⟨h.cell 0,h.cell 1,h.cell 2,h.cell 3,h.cell 4,h.cell 5,h.cell 6,h.cell 7,h.cell 8,h.cell 9,h.cell 10,h.cell 11,h.cell 12,h.cell 13,h.cell 14⟩,⟨h.frozen 0,h.frozen 1,h.frozen 2,h.frozen 3,h.frozen 4,h.frozen 5,h.frozen 6,h.frozen 7,h.frozen 8,h.frozen 9,h.frozen 10,h.frozen 11,h.frozen 12,h.frozen 13,h.frozen 14⟩⟩
theorem Blk.put15(h:Blk w g t #[c0,c1,c2,c3,c4,c5,c6,c7,c8,c9,c10,c11,c12,c13,c14])(x0 a i j k l m n o p b c d e f:Value):Blk (((((((((((((((w.setCell ⟨g,0,none⟩ x0).setCell ⟨g,1,none⟩ a).setCell ⟨g,2,none⟩ i).setCell ⟨g,3,none⟩ j).setCell ⟨g,4,none⟩ k).setCell ⟨g,5,none⟩ l).setCell ⟨g,6,none⟩ m).setCell ⟨g,7,none⟩ n).setCell ⟨g,8,none⟩ o).setCell ⟨g,9,none⟩ p).setCell ⟨g,10,none⟩ b).setCell ⟨g,11,none⟩ c).setCell ⟨g,12,none⟩ d).setCell ⟨g,13,none⟩ e).setCell ⟨g,14,none⟩ f) g t #[x0,a,i,j,k,l,m,n,o,p,b,c,d,e,f]:=by
 simpa using(((((((((((((((h.set_ 0 x0).set_ 1 a).set_ 2 i).set_ 3 j).set_ 4 k).set_ 5 l).set_ 6 m).set_ 7 n).set_ 8 o).set_ 9 p).set_ 10 b).set_ 11 c).set_ 12 d).set_ 13 e).set_ 14 f)
theorem Blk.lext15(h:Blk w g t cs)(a:t≠tU)(x0 b c d e f i j k l m n o p q:Value):zBq w (((((((((((((((w.setCell ⟨g,0,none⟩ x0).setCell ⟨g,1,none⟩ b).setCell ⟨g,2,none⟩ c).setCell ⟨g,3,none⟩ d).setCell ⟨g,4,none⟩ e).setCell ⟨g,5,none⟩ f).setCell ⟨g,6,none⟩ i).setCell ⟨g,7,none⟩ j).setCell ⟨g,8,none⟩ k).setCell ⟨g,9,none⟩ l).setCell ⟨g,10,none⟩ m).setCell ⟨g,11,none⟩ n).setCell ⟨g,12,none⟩ o).setCell ⟨g,13,none⟩ p).setCell ⟨g,14,none⟩ q):=
 (((((((((((((((h.lext a 0 x0).trans ((h.set_ 0 x0).lext a 1 b)).trans (((h.set_ 0 x0).set_ 1 b).lext a 2 c)).trans ((((h.set_ 0 x0).set_ 1 b).set_ 2 c).lext a 3 d)).trans (((((h.set_ 0 x0).set_ 1 b).set_ 2 c).set_ 3 d).lext a 4 e)).trans ((((((h.set_ 0 x0).set_ 1 b).set_ 2 c).set_ 3 d).set_ 4 e).lext a 5 f)).trans (((((((h.set_ 0 x0).set_ 1 b).set_ 2 c).set_ 3 d).set_ 4 e).set_ 5 f).lext a 6 i)).trans ((((((((h.set_ 0 x0).set_ 1 b).set_ 2 c).set_ 3 d).set_ 4 e).set_ 5 f).set_ 6 i).lext a 7 j)).trans (((((((((h.set_ 0 x0).set_ 1 b).set_ 2 c).set_ 3 d).set_ 4 e).set_ 5 f).set_ 6 i).set_ 7 j).lext a 8 k)).trans ((((((((((h.set_ 0 x0).set_ 1 b).set_ 2 c).set_ 3 d).set_ 4 e).set_ 5 f).set_ 6 i).set_ 7 j).set_ 8 k).lext a 9 l)).trans (((((((((((h.set_ 0 x0).set_ 1 b).set_ 2 c).set_ 3 d).set_ 4 e).set_ 5 f).set_ 6 i).set_ 7 j).set_ 8 k).set_ 9 l).lext a 10 m)).trans ((((((((((((h.set_ 0 x0).set_ 1 b).set_ 2 c).set_ 3 d).set_ 4 e).set_ 5 f).set_ 6 i).set_ 7 j).set_ 8 k).set_ 9 l).set_ 10 m).lext a 11 n)).trans (((((((((((((h.set_ 0 x0).set_ 1 b).set_ 2 c).set_ 3 d).set_ 4 e).set_ 5 f).set_ 6 i).set_ 7 j).set_ 8 k).set_ 9 l).set_ 10 m).set_ 11 n).lext a 12 o)).trans ((((((((((((((h.set_ 0 x0).set_ 1 b).set_ 2 c).set_ 3 d).set_ 4 e).set_ 5 f).set_ 6 i).set_ 7 j).set_ 8 k).set_ 9 l).set_ 10 m).set_ 11 n).set_ 12 o).lext a 13 p)).trans (((((((((((((((h.set_ 0 x0).set_ 1 b).set_ 2 c).set_ 3 d).set_ 4 e).set_ 5 f).set_ 6 i).set_ 7 j).set_ 8 k).set_ 9 l).set_ 10 m).set_ 11 n).set_ 12 o).set_ 13 p).lext a 14 q))
theorem zUi(w:World)(g k:Nat)(x0 b i j l m n o p q c d e f h:Value)(a:k≠g):((((((((((((((((w.setCell ⟨g,0,none⟩ x0).setCell ⟨g,1,none⟩ b).setCell ⟨g,2,none⟩ i).setCell ⟨g,3,none⟩ j).setCell ⟨g,4,none⟩ l).setCell ⟨g,5,none⟩ m).setCell ⟨g,6,none⟩ n).setCell ⟨g,7,none⟩ o).setCell ⟨g,8,none⟩ p).setCell ⟨g,9,none⟩ q).setCell ⟨g,10,none⟩ c).setCell ⟨g,11,none⟩ d).setCell ⟨g,12,none⟩ e).setCell ⟨g,13,none⟩ f).setCell ⟨g,14,none⟩ h)).heap[k]?=w.heap[k]?:=
 ((qC _ g 14 k h a).trans ((qC _ g 13 k f a).trans ((qC _ g 12 k e a).trans ((qC _ g 11 k d a).trans ((qC _ g 10 k c a).trans ((qC _ g 9 k q a).trans ((qC _ g 8 k p a).trans ((qC _ g 7 k o a).trans ((qC _ g 6 k n a).trans ((qC _ g 5 k m a).trans ((qC _ g 4 k l a).trans ((qC _ g 3 k j a).trans ((qC _ g 2 k i a).trans ((qC _ g 1 k b a).trans (qC _ g 0 k x0 a)))))))))))))))
theorem zSr{a:World}(h:Below B a w)(b:B<=g)(x0 c k l m n o p q r d e f i j:Value):Below B a (((((((((((((((w.setCell ⟨g,0,none⟩ x0).setCell ⟨g,1,none⟩ c).setCell ⟨g,2,none⟩ k).setCell ⟨g,3,none⟩ l).setCell ⟨g,4,none⟩ m).setCell ⟨g,5,none⟩ n).setCell ⟨g,6,none⟩ o).setCell ⟨g,7,none⟩ p).setCell ⟨g,8,none⟩ q).setCell ⟨g,9,none⟩ r).setCell ⟨g,10,none⟩ d).setCell ⟨g,11,none⟩ e).setCell ⟨g,12,none⟩ f).setCell ⟨g,13,none⟩ i).setCell ⟨g,14,none⟩ j):=
 (yB (yB (yB (yB (yB (yB (yB (yB (yB (yB (yB (yB (yB (yB (yB h b 0 x0) b 1 c) b 2 k) b 3 l) b 4 m) b 5 n) b 6 o) b 7 p) b 8 q) b 9 r) b 10 d) b 11 e) b 12 f) b 13 i) b 14 j)
abbrev tS:TypeId:=134
def qA5:Array Value:=#[niq 0,niq 0,.slice none 0 0,niq 0,niq 0,.slice none 0 0,niq 0,niq 0,.slice none 0 0,niq 0,niq 0,.slice none 0 0,niq 0,niq 0,.slice none 0 0]
def zOV(n:Nat):World->Value->Prop:=fun w v=>∃g,v=ptq g 0/\Blk w g tW #[niq 0,niq 0,.slice none 0 0,niq 0,niq 0,.slice none 0 0,niq 0,niq 0,.slice none 0 0,niq 0,niq 0,.slice none 0 0,niq 0,niq 0,.slice none 0 0]/\n<=g
theorem zKr(n:Nat):zAj (zOV n):=fun _ _ _ x ⟨g,a,b,c⟩=>⟨g,a,b.I x,c⟩
theorem zMz.work{W:World}{n0 R C Cu Cw:Nat}{z:W5}{so sc uo uc vo vc wo wc xo xc}(c:Blk w g tW cs)(F:n0<=g)
  (h:zMz n0 R C Cu Cw z w (.agg #[.int .i64 R,.int .i64 C,.slice so R sc,.int .i64 R,.int .i64 Cu,.slice uo R uc,.int .i64 R,.int .i64 Cu,.slice vo R vc,.int .i64 C,.int .i64 Cw,.slice wo C wc,.int .i64 C,.int .i64 Cw,.slice xo C xc]))
  (E:Blk W g tW #[.int .i64 R,.int .i64 C,.slice so R sc,.int .i64 R,.int .i64 Cu,.slice uo R uc,.int .i64 R,.int .i64 Cu,.slice vo R vc,.int .i64 C,.int .i64 Cw,.slice wo C wc,.int .i64 C,.int .i64 Cw,.slice xo C xc])
  (d:qK (fun b=>b=g) w W):∃f i j k l,zCu W n0 g R C R C Cu Cw (.slice so R sc) (.slice uo R uc) (.slice vo R vc) (.slice wo C wc) (.slice xo C xc) f i j k l z:=by
 obtain⟨I,H,K,J,M,L,O,N,Q,P,f,i,j,k,l,e,m,n,o,p,q,G,r,t,u,v,x,y,A,B,D,s⟩:=h.ex;injection e with e
 simp only[Array.mk.injEq,List.cons.injEq,Value.slice.injEq,true_and,and_true]at e;obtain⟨⟨rfl,rfl⟩,⟨rfl,rfl⟩,⟨rfl,rfl⟩,⟨rfl,rfl⟩,rfl,rfl⟩:=e;refine⟨f,i,j,k,l,E,F,m.keepZ d ?_,n.keepZ d ?_,o.keepZ d ?_,p.keepZ d ?_,q.keepZ d ?_,G,r,t,u,v,x,y,A,B,D,s⟩;rintro b a rfl;exact m.nwb c a;rintro b a rfl;exact n.nwb c a;rintro b a rfl;exact o.nwb c a;rintro b a rfl;exact p.nwb c a;rintro b a rfl;exact q.nwb c a
theorem zYa(l:BSm B)(v b:Value)(M:List (List Int))(R C:Nat)(w:World)(h:zAQ w v R C M)(hF:zBW R C M)(p:jE w b 1)(n:R<=1000000)(m:C<=1000000)(q:okF B R C (ent M))(u:Sm 1):
  CPq 114 #[v,b] w fun e w'=>∃v,e= .returned v/\zFu R C (ent M) w.heap.size w'.heap.size w' v/\BWq w w':=by
 refine(zRm v b M R C 1 w h hF p n m ?_ u).mono fun e w' a=>?_
 .intro r a z t
  obtain⟨i,c,g⟩:=qZ a;obtain⟨j,o,k⟩:=qZ t;have d:M[i]?=some r:=by rw[xga c,g]
  have f:r[j]?=some z:=by rw[xga o,k]
  have x:=hF.2 r a;have:=q i (by rw[<-hF.1];exact c) j oM;rw[zFE d f]at this;exact l.sm _ this
 have s:genM R C (fun i j=>1*ent M i j)=genM R C (ent M):=jX fun i _ j _=>zAG _
 rw[s]at a;exact a.within
theorem zLV(n:Nat)(w:World)(a:n<=1000000):CPq 148 #[niq n] w fun e w'=>∃v,e= .returned v/\zFu n n idf w.heap.size w'.heap.size w' v/\BWq w w':=
 (zMS n w a).mono fun _ _ b=>b.within
def qBk(R C:Nat)(F:Nat->Nat->Int):World->Value->Prop:=fun w v=>∃o c,v= .agg #[niq R,niq C,.slice o R c]/\zBg w (.slice o R c) (genM R C F)
theorem zCs{a b:World}(h:Below B w a)(c:qK (fun k=>base<=k) a b)(e:B<=base)(f:B<=a.heap.size):Below B w b:=
 ⟨c.bel.os.trans h.os,c.bel.tape.trans h.tape,c.bel.output.trans h.output,zD h.size c.bel.size,fun k d=>(c.old k oM oM).trans (h.block k d)⟩
theorem zBg.off(h:zBg w v M)(J:Blk w g T cs)(h1:T≠tR)(h2:T≠tI)(j:∀b,b≠g->w'.heap[b]?=w.heap[b]?)(P:zBq w w'):zBg w' v M:=by
 obtain⟨x,n,z,D,E,F,G,H⟩:=h;refine⟨x,n,z,D,E,F,G,fun N=>?_⟩;obtain⟨b,B,S,l,V⟩:=H N;have i:∀{c:Nat} {U:TypeId} {f:Array Value},w.heap[c]?=some (.cells f U (0,0))->T≠U->c≠g:=by
  intro c U f a I L;subst L;have K:w.heap[c]?=some (.cells cs T (0,0)):=J;rw[K]at a;injection a with a
  injection a with _ O
  exact I O
 refine⟨b,B,S,(j b (i l h1)).trans l,fun k zs d=>?_⟩;obtain⟨rv,W,y,R,A,X,Y,Z,r5,r6⟩:=V k zs d;refine⟨rv,W,y,R,A,X,Y,Z,r5,fun Q=>?_⟩;obtain⟨e,s1,C,m,s3⟩:=r6 Q;exact⟨e,s1,C,(j e (i m h2)).trans m,fun k a0 d=>by
  obtain⟨o,p,q,r,s,t,u⟩:=s3 k a0 d;exact⟨o,p,q,r,s,t,u.ext P⟩⟩
def qAS(t:TypeId)(n0:Nat)(cs:Array Value):World->Value->Prop:=fun w v=>∃b,v=ptq b 0/\n0<=b/\Blk w b t cs
theorem zO1(t:TypeId)(n0:Nat)(cs:Array Value):zAj (qAS t n0 cs):=fun _ _ _ e ⟨b,a,c,d⟩=>⟨b,a,c,d.I e⟩
abbrev tHe:TypeId:=108
def SlP(R:Nat):World->Value->Prop:=fun _ v=>∃o c,v= .slice o R c
theorem zRR(R:Nat):zAj (SlP R):=fun _ _ _ _ h=>h
theorem Blk.neT{c:TypeId}{d:Array Value}(h:Blk w a T cs)(k:Blk w b c d)(i:T≠c):a≠b:=by
 intro e;subst e;have g:w.heap[a]?=some (.cells cs T (0,0)):=h;have f:w.heap[a]?=some (.cells d c (0,0)):=k;rw[g]at f;injection f with l
 injection l with _ j
 exact i j
theorem zY3{b:List AS}(h:(b.all fun a=>!(a.op==k))=true):∀a∈b,a.op≠k:=fun a c e=>by
 have:=zAB.1 h a c;simp[e]at this
theorem Wri.nzb(h:Wri w A R C bs F){e:Nat}(i:Blk w e T cs)(h1:T≠tR)(h2:T≠tI):¬ Zn A bs e:=by
 intro c;have f:w.heap[e]?=some (.cells cs T (0,0)):=i;rcases c with b|b
 .obtain⟨r,k,a,-⟩:=h.blk b
  rw[f]at a;injection a with a
  injection a with _ d
  exact h2 d
 rcases(qH.own h).2 with⟨rfl,-⟩|⟨g,j,l,rfl,-,c,-⟩
 cases b;simp only[Value.ownBlock,Option.some.injEq]at b;subst b;rw[f]at c;injection c with a
 injection a with _ d
 exact h1 d
theorem zFk:∀(l m:List Nat),l.Nodup->(∀x∈l,x∈m)->l.length<=m.length
 | [],m,_,_=>zH _
 |a::l,m,h,c=>by
  have b:=c a (zAa ..);obtain⟨f,g⟩:=List.nodup_cons.1 h;have i:=zFk l (m.erase a) g (fun x d=>(List.mem_erase_of_ne (fun e=>by subst e;exact f d)).2 (c x (qT _ d)));rw[List.length_erase_of_mem b]at i;have:=List.length_pos_of_mem b;simp only[List.length_cons];omega
def zMu(n C:Nat)(F:Nat->Nat->Int)(L:List (Nat × Nat)):List Nat:=L.map (·.1)++(List.range n).filter fun i=>decide (lead C F i<0)
theorem zLa{x:Bst}{L:List (Nat × Nat)}(h:LOk n C m x L):(L.map (·.1)).Nodup:=by
 rw[List.nodup_iff_pairwise_ne,List.pairwise_iff_getElem];intro i j b a c;simp only[List.length_map]at b a;have:=h.inj i j c a;rw[xgb,xgb,xga b,xga a]at this;simpa using this
theorem zWA{L:List (Nat × Nat)}(h:a∈L.map (·.1)):∃k,k<L.length/\(L.getD k (0,0)).1=a:=by
 obtain⟨p,c,rfl⟩:=List.mem_map.1 h;obtain⟨k,b,e⟩:=qZ c;exact⟨k,b,by rw[xgb,xga b,e];rfl⟩
theorem zNz{x:Bst}{L:List (Nat × Nat)}(h:LOk n C m x L)(e:a∈L.map (·.1)):a<n/\¬ lead C x.s a<0:=by
 obtain⟨k,f,rfl⟩:=zWA e;obtain⟨-,b,c,d⟩:=h.mem k f;exact⟨b,fun g=>d (zHk g _ c)⟩
theorem zMf{x:Bst}{L:List (Nat × Nat)}(h:LOk n C m x L):∀a∈zMu n C x.s L,a<n:=by
 intro a ha;rcases List.mem_append.1 ha with ha|ha
 exact(zNz h ha).1;simp only[List.mem_filter,List.mem_range]at ha;exact ha.1
theorem zIQ{x:Bst}{L:List (Nat × Nat)}(h:LOk n C m x L):(zMu n C x.s L).Nodup:=by
 unfold zMu;rw[jG];refine⟨zLa h,List.Nodup.sublist List.filter_sublist List.nodup_range,fun a d b c e=>?_⟩;subst e;simp only[List.mem_filter,decide_eq_true_eq]at c;exact(zNz h d).2 c.2
theorem zMe{x:Bst}{L:List (Nat × Nat)}(h:LOk n C m x L)(i:∀a,a<n->(∀k,k<L.length->(L.getD k (0,0)).1≠a)->lead C x.s a<0):(zMu n C x.s L).length=n:=by
 have f:=zFk _ (List.range n) (zIQ h) (fun a b=>yP.2 (zMf h a b));have g:=zFk (List.range n) (zMu n C x.s L) List.nodup_range (fun a b=>by
  have b:=yP.1 b;by_cases d:a∈L.map (·.1)
  .exact List.mem_append.2 (.inl d)
  refine List.mem_append.2 (.inr ?_);simp only[List.mem_filter,List.mem_range,decide_eq_true_eq];refine⟨b,i a b fun k c e=>d ?_⟩;rw[<-e,xgb,xga c];exact List.mem_map.2 ⟨_,zAq c,rfl⟩)
 simp only[List.length_range]at f g;omega
theorem StP.mono{e:Nat}(h:StP lo R C F w v)(d:e<=lo):StP e R C F w v:=by
 obtain⟨g,a,b,c,i,f,n,⟨bs,j,k⟩,l,m⟩:=h;exact⟨g,a,b,c,i,zD d f,n,⟨bs,j,fun b o=>zD d (k b o)⟩,l,m⟩
theorem zJy{T:Array Value}{j:Nat}(h:i≠j):(T.setIfInBounds i v).getD j d=T.getD j d:=by
 rw[zAn,zAn,xgc h]
theorem zPt{T:Array Value}(h:T[i]?=some v):T.getD i d=v:=by
 rw[zAn,h];rfl
theorem qBi{vs:List VS}(h:(vs.all fun a=>!(a.op==k))=true):∀a∈vs,a.op≠k:=fun a b e=>by
 have:=zAB.1 h a b;simp[e]at this
theorem qBb{vs:List MS}(h:(vs.all fun a=>!(a.op==k))=true):∀a∈vs,a.op≠k:=fun a b e=>by
 have:=zAB.1 h a b;simp[e]at this
theorem qK.ofB(h:Below B w w')(c:zBq w w'):qK (fun b=>B<=b) w w':=⟨h.mono (zH _),c,fun k _ a=>h.block k (zCk a)⟩
theorem zFz.type(h:zFz w base v xs):∀g,v.ownBlock=some g->∃cs,Blk w g tNn cs:=by
 intro g a;rcases h.2.2 with⟨rfl,-⟩|⟨e,c,d,rfl,-,b,-⟩
 cases a;simp only[Value.ownBlock,Option.some.injEq]at a;subst a;exact⟨_,b⟩
theorem zFz.ne(h:zFz w base v xs)(d:Blk w b T cs)(c:T≠tNn):v.ownBlock≠some b:=by
 intro e;obtain⟨f,a⟩:=h.type b e;exact Blk.neT d a c rfl
theorem zFz.far(h:zFz w base v xs)(l:Blk w b T cs)(k:T≠tNn)(i:Nat)(u:Value):zFz (w.setCell ⟨b,i,none⟩ u) base v xs:=by
 obtain⟨f,j,a⟩:=id h;refine⟨f,j,?_⟩;rcases a with a|⟨g,c,d,rfl,m,n,o⟩
 exact .inl a;exact .inr ⟨g,c,d,rfl,m,(qC _ _ _ _ _ (fun e=>h.ne l k (by simp[Value.ownBlock,e]))).trans n,o⟩
def zXD(R C:Nat)(M:List (List Int)):World->Value->Prop:=fun w v=>∃o c,v= .agg #[niq R,niq C,.slice o R c]/\zBg w (.slice o R c) M
theorem zFg(R C:Nat)(M:List (List Int)):zAj (zXD R C M):=fun _ _ _ x ⟨o,c,a,b⟩=>⟨o,c,a,b.I x⟩
theorem zBg.slice(h:zBg w v M):∃o c,v= .slice o M.length c:=by
 obtain⟨a,n,b,d,e,-⟩:=h;exact⟨a,b,by rw[d,e]⟩
theorem zHM(b h:Value)(n Cs f g base:Nat)(j a:List Nat)(F:Nat->Nat->Int)(w:World)(A:Wri w b n Cs j F)(s:Blk w f 3 #[niq n])(u:Blk w g 96 #[h])(z:zFz w base h a)
  (y:∀x∈a,x<n) (t:a.Nodup) (r:n<=1000000) (m:Cs<=1000000) (q:a.length=n):
  CPq 150 #[b,niq Cs,ptq f 0,ptq g 0] w fun e w'=>∃v,e= .returned v/\zXD n Cs (a.map fun i=>yV Cs (F i)) w' v/\BWq w w':=by
 refine(zPJ b h n Cs f g base j a F w A s u z y t r m oM).mono ?_;rintro e w' ⟨v,B,rfl,k,-,l⟩;have d:=qH.rows k.rows0;obtain⟨o,c,rfl⟩:=zBg.slice d;have p:(a.map fun i=>yV Cs (F i)).length=n:=by simp[q]
 rw[p]at d ⊢
 exact⟨_,rfl,⟨o,c,rfl,d⟩,l⟩
structure zJZ(w:World)(f:Value)(R C:Nat)(H U V:List (List Int)):Prop where
 ex:∃h u v,f= .agg #[niq R,niq C,h,niq R,niq R,u,niq R,niq R,v]/\zBg w h H/\zBg w u U/\zBg w v V
def zXr(R C:Nat)(H U V:List (List Int)):World->Value->Prop:=fun w f=>∃ho hc uo uc vo vc,f= .agg #[niq R,niq C,.slice ho R hc,niq R,niq R,.slice uo R uc,niq R,niq R,.slice vo R vc]/\zBg w (.slice ho R hc) H/\zBg w (.slice uo R uc) U/\zBg w (.slice vo R vc) V
theorem zNa(R C:Nat)(H U V:List (List Int)):zAj (zXr R C H U V):=fun _ _ _ x ⟨a,b,c,d,e,f,g,h,i,j⟩=>⟨a,b,c,d,e,f,g,h.I x,i.I x,j.I x⟩
theorem Tryz.sizeHe:(Tryz.prog.info? tHe).map (·.size)=some 9:=by kernel_rfl
theorem zX7(c:a<os.length)(e:b<C):ent (os.map fun i=>yV C (F i)) a b=F (os.getD a 0) b:=by
 have d:(os.map fun i=>yV C (F i))[a]?=some (yV C (F (os.getD a 0))):=by
  rw[List.getElem?_map,xga c,Option.map_some,xgb,xga c];rfl
 exact zFE d (yO e)
theorem zVp(h:os.length=n):zBW n C (os.map fun i=>yV C (F i)):=by
 refine⟨by simp[h],fun r a=>?_⟩;obtain⟨i,-,rfl⟩:=List.mem_map.1 a;exact qN _ _
theorem zST(s:BSm B)(h:zXD n n (os.map fun i=>yV n (F i)) w v)(u:os.length=n)(y:∀x∈os,x<n)(A:okF B n n F)(m:n<=1000000):
  CPq 151 #[v] w fun e w'=>∃v,e= .returned v/\zXD n n (genM n n fun a b=>F (os.getD b 0) a) w' v/\BWq w w':=by
 obtain⟨o,c,rfl,d⟩:=h;refine(zGr _ n n _ w ⟨_,rfl,d⟩ (zVp u) m m ?_).mono ?_
 .intro r d z D
  obtain⟨i,l,rfl⟩:=List.mem_map.1 d;obtain⟨j,g,e⟩:=qZ D;rw[qN]at g;have k:=yO (f:=F i) g;rw[xga (by rw[qN];exact g),e]at k;injection k with k
  rw[k];exact s.sm _ (A i (y i l) j g)
 intro e w' d;have C:genM n n (fun a b=>ent (os.map fun i=>yV n (F i)) b a)=genM n n (fun a b=>F (os.getD b 0) a):=jX fun i l j g=>zX7 oM l
 rw[C]at d;obtain⟨v,rfl,⟨o,c,bs,p,q,E⟩,t⟩:=zDl.within d;exact⟨v,rfl,⟨o,c,p,qH.rows q⟩,t⟩
theorem zQT(k:Nat):((List.range (k+1)).filter fun i=>decide (lead C F i<0))=((List.range k).filter fun i=>decide (lead C F i<0))++(if lead C F k<0 then [k]else []):=by
 rw[zCy,List.filter_append];congr 1;by_cases h:lead C F k<0
 .rw[zB h];simp[h]
 rw[zA h];simp[h]
theorem zTT(hB:BSd B)(v:Value)(M:List (List Int))(R C:Nat)(w:World)(h:zAQ w v R C M)(hF:zBW R C M)(J:R<=1000000)(hC:C<=1000000)(o5:okF B R C (ent M))(s1:Sm 1){d7 J':Nat->Bst->List (Nat × Nat)->Prop}(hE:zXB B R C R d7 J')(I:d7 0 ⟨ent M,idf,idf⟩ [])
  (n5:∀y L,d7 R y L->∀a,a<R->(∀k,k<L.length->(L.getD k (0,0)).1≠a)->lead C y.s a<0):
  CPq 102 #[v] w fun e w'=>∃v y L,e= .returned v/\d7 R y L/\(zMu R C y.s L).length=R/\zJZ w' v R C ((zMu R C y.s L).map fun i=>yV C (y.s i)) ((zMu R C y.s L).map fun i=>yV R (y.t i)) (genM R R fun a b=>y.i ((zMu R C y.s L).getD b 0) a)/\BWq w w':=by
 have V:=h;obtain⟨A,rfl,h⟩:=h;obtain⟨ao,n,A2,rfl,U,e3,e4,-⟩:=id h;obtain rfl:R=n:=by rw[<-U,hF.1]
 have n4:decide (zBX R C M)=true:=zQ hF.valid;have HF:=xgv hF;have s8:=xgv o5;have H0:=xgv V;have S1:=xgv s1;have HE:=xgv hE;have HJ:=xgv I;have s6:=xgv n5;clear o5 V hF U s1 hE I n5;go_enter Tryz.func102,Tryz.ntmps102;go_upto_region 1 with(fail)
 refine zF ?_;intro W0 m7;obtain⟨l9,j,d,A9⟩:=zAU m7;obtain⟨c1,c2,c3,c4,c5,c6⟩:=j.three;clear m7;go_wp2_with fail
 refine(zDf _ R C M W0 (H0.out.I l9)).mono ?_;rintro e w1 ⟨rfl,e0⟩;rw[n4];have j:=j.I e0;have d:=d.I e0;have m0:=nx l9 e0;have B0:=e0.size;clear c1 c2 c3 c4 c5 c6 n4;obtain⟨c1,c2,c3,c4,c5,c6⟩:=j.three;have h9:=zLM w1.heap.size R C (ent M);have n7:=zO1 3 w1.heap.size #[.int .i64 0];go_upto_region 3 with(fail)
 refine yA 5 [pcD 3 [] (StP w1.heap.size R C (ent M)),pcD 4 [] (qAS 3 w1.heap.size #[.int .i64 0])] ?_;refine sRd ?_;refine sRc (fun s hI Gk D=>?_) (fun x7 _=>?_)
 .go_simp
  refine(zN2 hB.bsm _ M R C _ ((H0.out.I m0).I hI.bel).off HF.out J hC s8.out S1.out).mono ?_;rintro e wa ⟨v,rfl,hv,c9⟩;exact⟨_,rfl,D _ _ (hv.mono hI.bel.size),c9⟩
 refine sRc (fun s hI Gk D=>?_) (fun x8 _=>?_)
 .go_simp
  exact⟨D _ _ ⟨_,rfl,hI.bel.size,yG _ _ _⟩,(zC _ _).alloc (xgf _) _⟩
 refine sRe ?_;intro w2 e5 v1 v2;obtain⟨m,Ah,Au,Av,rfl,q1,N,q3,-,-⟩:StP w1.heap.size R C (ent M) w2 x7:=v1;obtain⟨Q,rfl,q4,f⟩:qAS 3 w1.heap.size #[.int .i64 0] w2 x8:=v2;obtain⟨a8,a9,w4⟩:=q3;obtain⟨n1,n2⟩:w2.cell? ⟨Q,0,none⟩=some (.int .i64 0)/\w2.frozen? ⟨Q,0,none⟩=false:=⟨f.cell 0,f.frozen 0⟩;have i0:Q≠m:=Blk.neT f N dE;have g9:=nx m0 e5;have d:=d.I e5;have j:=j.I e5;have p0:=e5.size;clear c1 c2 c3 c4 c5 c6 h9 n7;go_upto_region 4 with(fail)
 refine zF ?_;intro W2 d8;have b3:qK (fun b=>b=Q) w2 W2:=by rw[d8.out];exact⟨yB (zC _ _) (zH _) _ _,f.lext dE _ _,fun b _ hb=>qC _ _ _ _ _ hb⟩
 have g9:BWq w W2:=by rw[d8.out];exact yB g9 oM _ _
 have a9:=a9.keepZ b3 (by rintro b hb rfl;exact a9.nzb f dE dE hb);have N:=b3.blk N (qF i0);have d:=b3.blk d oM;have j:=b3.blk j oM;have f:Blk W2 Q 3 #[.int .i64 R]:=by rw[d8.out];simpa using f.set_ 0 (.int .i64 R)
 have p0:=zD p0 b3.bel.size;have n1:=f.cell 0;have h9:=zRR R;have p6:∀b,Zn Ah a8 b->b<W2.heap.size:=fun b hb=>a9.zlt hb
 have l1:=xgv a9;have g7:=xgv p6;have A8:=N.lt;obtain⟨P,O,rfl⟩:=a9.shape;clear d8 b3 n2 a9 p6;refine zDT 11 rfl (RXS W2 _ [⟨0,17,fun _ v=>v= .pointer (some ⟨m,0,none⟩)⟩,⟨1,18,fun _ v=>v= .pointer (some ⟨m,0,none⟩)⟩,⟨2,19,fun _ v=>v= .int .i64 R⟩,⟨4,21,SlP R⟩,⟨5,22,fun _ v=>v= .int .i64 R⟩,⟨7,24,SlP R⟩,⟨8,25,fun _ v=>v= .pointer (some ⟨m,0,none⟩)⟩,⟨9,26,fun _ v=>v= .pointer (some ⟨m,1,none⟩)⟩] [⟨3,20,R,R,idf⟩,⟨6,23,R,R,idf⟩] [⟨4,21,⟨3,20,R,R,idf⟩⟩,⟨7,24,⟨6,23,R,R,idf⟩⟩] 10 (fun T w=>w.setCell ⟨m,1,none⟩ (T.getD 21 undef))) kR (RXS.start (RX.start kR (by repeat' (first|exact zFI _|exact zGD _|assumption|refine xgm.2 ⟨?_,?_⟩|exact xgn _)) (by
   refine xgm.2 ⟨⟨mm0,_,mm3,rfl,rfl⟩,xgm.2 ⟨⟨mm1,_,mm5,rfl,rfl⟩,xgn _⟩⟩))) ?finX ?stepsX
 case stepsX=>
  refine⟨?_,?_,?_,?_,?_,?_,?_,?_,?_,?_,?_,trivial⟩
  .refine zAO.liftX kR dE ?_
   intro L T s l hd F hI K hK;try refine qI rfl ?_
   have zt:T[4]?=some (.pointer (some ⟨m,0,none⟩)):=hI.g.keep 4 sI sI;go_simp;exact hK _ _ (hI.y mm0 rfl (zY3 kR))
  .intro L T s l hd F hI K hK
   try refine qI rfl ?_
   have zt:T[4]?=some (.pointer (some ⟨m,0,none⟩)):=by
    obtain⟨w0,V,-,-⟩:=hI;exact V.g.keep 4 sI sI
   go_simp;exact hK _ _ (hI.step (fun w0 V=>V.y mm1 rfl (zY3 kR)) dE (fun w=>by rw[zJy dE]))
  .refine zAO.liftX kR dE ?_
   intro L T s l hd F hI K hK;try refine qI rfl ?_
   have zt:T[3]?=some (.pointer (some ⟨Q,0,none⟩)):=hI.g.keep 3 sI sI;have t7:=hI.g.cell n1;go_simp;exact hK _ _ (hI.y mm2 rfl (zY3 kR))
  .refine zAO.liftX kR dE ?_
   intro L T s l hd F hI K hK;try refine qI rfl ?_
   obtain⟨_,C6,rfl⟩:=hI.g.val _ mm2 (hd 2);go_simp;refine(zLV R _ J).mono ?_;rintro e wa ⟨v,rfl,hv,c9⟩;exact hK _ _ (hI.mat F l ⟨3,20,_,_,_⟩ mm0 rfl c9 hv kR)
  .refine zAO.liftX kR dE ?_
   intro L T s l hd F hI K hK;try refine qI rfl ?_
   obtain⟨_,A0,o,c,rfl⟩:=hI.g.matv ⟨3,20,R,R,idf⟩ mm0 (hd 3);go_simp;exact hK _ _ (hI.alias ⟨4,21,⟨3,20,R,R,idf⟩⟩ mm0 ⟨4,21,SlP R⟩ mm3 rfl rfl ⟨o,c,rfl⟩ (hd 3) (by
    refine xgm.2 ⟨fun _=>rfl,xgm.2 ⟨fun e=>absurd e (by dsimp only;omega),xgn _⟩⟩) A0 rfl)
  .refine zAO.liftX kR dE ?_
   intro L T s l hd F hI K hK;try refine qI rfl ?_
   have zt:T[3]?=some (.pointer (some ⟨Q,0,none⟩)):=hI.g.keep 3 sI sI;have t7:=hI.g.cell n1;go_simp;exact hK _ _ (hI.y mm4 rfl (zY3 kR))
  .refine zAO.liftX kR dE ?_
   intro L T s l hd F hI K hK;try refine qI rfl ?_
   obtain⟨_,C7,rfl⟩:=hI.g.val _ mm4 (hd 5);go_simp;refine(zLV R _ J).mono ?_;rintro e wa ⟨v,rfl,hv,c9⟩;exact hK _ _ (hI.mat F l ⟨6,23,_,_,_⟩ mm1 rfl c9 hv kR)
  .intro L T s l hd F hI K hK
   try refine qI rfl ?_
   obtain⟨o,c,i8⟩:∃o c,T[23]?=some (.agg #[.int .i64 R,.int .i64 R,.slice o R c]):=by
    obtain⟨w0,V,-,-⟩:=hI;obtain⟨_,i8,o,c,rfl⟩:=V.g.matv ⟨6,23,R,R,idf⟩ mm1 (hd 6);exact⟨o,c,i8⟩
   have h6:=hd 6 kR;go_simp;exact hK _ _ (hI.step (fun w0 V=>V.alias ⟨7,24,⟨6,23,R,R,idf⟩⟩ mm1 ⟨7,24,SlP R⟩ mm5 rfl rfl ⟨o,c,rfl⟩ h6 (by
    refine xgm.2 ⟨fun e=>absurd e (by dsimp only;omega),xgm.2 ⟨fun _=>rfl,xgn _⟩⟩) i8 rfl) dE (fun w=>by rw[zJy dE]))
  .refine zAO.liftX kR dE ?_
   intro L T s l hd F hI K hK;try refine qI rfl ?_
   obtain⟨_,C5,rfl⟩:=hI.g.val _ mm0 (hd 0);go_simp;exact hK _ _ (hI.y mm6 rfl (zY3 kR))
  .refine zAO.liftX kR dE ?_
   intro L T s l hd F hI K hK;try refine qI rfl ?_
   obtain⟨_,C8,rfl⟩:=hI.g.val _ mm6 (hd 8);go_simp;exact hK _ _ (hI.y mm7 rfl (zY3 kR))
  intro L T s l hd F I K hK;try refine qI rfl ?_
  have hI:=I.here l;obtain⟨_,C9,rfl⟩:=hI.g.val _ mm7 (hd 9);obtain⟨_,A1,o,c,rfl⟩:=hI.g.val _ mm3 (hd 4);obtain⟨Y,g2,g3,g4,g5,g6⟩:=(N.I hI.g.bel).three;go_simp;exact hK _ _ (RXS.store hI l (qBi kR) (qBb kR) (by show _=World.setCell _ _ _;rw[zPt A1]))
 intro T w3 I;obtain⟨w0,E,-,u⟩:=I;replace u:=u kR;obtain⟨g8,i7,Y,g2⟩:=E.g.gh;obtain⟨k1,k2,m1,k3,k4⟩:=Y ⟨3,20,R,R,idf⟩ mm0 rfl;obtain⟨k5,k6,m2,k7,k8⟩:=Y ⟨6,23,R,R,idf⟩ mm1 rfl;have k9:=g2 ⟨3,20,R,R,idf⟩ mm0 ⟨6,23,R,R,idf⟩ mm1 (by dsimp only;omega) rfl rfl;obtain⟨-,t,c1,a1,a2⟩:=E.al ⟨4,21,⟨3,20,R,R,idf⟩⟩ mm0 rfl;obtain⟨-,z,c2,a3,a4⟩:=E.al ⟨7,24,⟨6,23,R,R,idf⟩⟩ mm1 rfl;have l5:T.getD 21 undef= .slice t R c1:=zPt a2;replace u:w3=w0.setCell ⟨m,1,none⟩ (T.getD 21 undef):=u;rw[l5]at u;obtain⟨_,p8,rfl⟩:=E.g.val _ mm0 rfl;obtain⟨_,p9,rfl⟩:=E.g.val _ mm1 rfl;obtain⟨_,r9,rfl⟩:=E.g.val _ mm2 rfl;obtain⟨_,s0,rfl⟩:=E.g.val _ mm4 rfl;obtain⟨_,s2,rfl⟩:=E.g.val _ mm6 rfl;obtain⟨_,s3,rfl⟩:=E.g.val _ mm7 rfl;have hT:=zFs [(17,.pointer (some ⟨m,0,none⟩)),(18,.pointer (some ⟨m,0,none⟩)),(19,.int .i64 R),(21,.slice t R c1),(22,.int .i64 R),(24,.slice z R c2),(25,.pointer (some ⟨m,0,none⟩)),(26,.pointer (some ⟨m,1,none⟩)),(20,.agg #[.int .i64 R,.int .i64 R,.slice t R c1]),(23,.agg #[.int .i64 R,.int .i64 R,.slice z R c2])]
  (fun w6 hj=>E.g.keep w6 (by simp only[xgm]at hj ⊢;simp[hj]) (by simp only[xgm]at hj ⊢;simp[hj]))
  (by simp only[xgm];simp[p8,p9,r9,a2,s0,a4,s2,s3,a1,a3]) E.g.size
 have a0:=E.g.bel;obtain⟨x,wt,zt⟩:∃x,Wri w0 (.slice t R c1) R R x idf/\∀b,Zn (.slice t R c1) x b->g8 3<=b/\b<i7 3:=by
  obtain⟨o',c',x,e,q1,N⟩:=k4;have X:=k3.symm.trans a1;injection X with X
  rw[X]at e;injection e with e
  simp only[Array.mk.injEq,List.cons.injEq,Value.slice.injEq,true_and,and_true]at e;obtain⟨rfl,rfl⟩:=e;exact⟨x,q1,N⟩
 obtain⟨S,wi,zi⟩:∃S,Wri w0 (.slice z R c2) R R S idf/\∀b,Zn (.slice z R c2) S b->g8 6<=b/\b<i7 6:=by
  obtain⟨o',c',x,e,q1,N⟩:=k8;have X:=k7.symm.trans a3;injection X with X
  rw[X]at e;injection e with e
  simp only[Array.mk.injEq,List.cons.injEq,Value.slice.injEq,true_and,and_true]at e;obtain⟨rfl,rfl⟩:=e;exact⟨x,q1,N⟩
 dsimp only at k1 k2 k5 k6 k9;have h5:=l1.out.I a0;have p1:Ap (.slice P R O) a8 (.slice t R c1) x:=zCS (a:=0) (b:=W2.heap.size) (fun e9 hx=>⟨zH _,g7.out e9 hx⟩) zt k1;have p2:Ap (.slice P R O) a8 (.slice z R c2) S:=zCS (a:=0) (b:=W2.heap.size) (fun e9 hx=>⟨zH _,g7.out e9 hx⟩) zi k5;have p3:Ap (.slice t R c1) x (.slice z R c2) S:=zCS zt zi k9;have b5:=N.I a0;have h3:=nx g9 a0;have d:=d.I a0;have j:=j.I a0;have f:=f.I a0;have b6:Blk w3 m tHW #[.slice P R O,.slice t R c1,Av]:=by rw[u];simpa using b5.set_ 1 (.slice t R c1)
 have a5:qK (fun b=>b=m) w0 w3:=by rw[u];exact⟨yB (zC _ _) (zH _) _ _,b5.lext dE _ _,fun b _ hb=>qC _ _ _ _ _ hb⟩
 have h3:BWq w w3:=by rw[u];exact yB h3 oM _ _
 have G:=h5.keepZ a5 (by rintro b hb rfl;exact h5.nzb b5 dE dE hb);have wT:=wt.keepZ a5 (by rintro b hb rfl;exact wt.nzb b5 dE dE hb);have Z:=wi.keepZ a5 (by rintro b hb rfl;exact wi.nzb b5 dE dE hb);have d:=a5.blk d oM;have j:=a5.blk j oM;have f:=a5.blk f i0;have B1:w1.heap.size<=w3.heap.size:=by have:=a0.size;have:=a5.bel.size;omega
 have WA:=xgv G;have WT:=xgv wT;have WI:=xgv Z;have ZT:=xgv (fun b (hb:Zn (.slice t R c1) x b)=>zD k1 (zt b hb).1);have ZI:=xgv (fun b (hb:Zn (.slice z R c2) S b)=>zD k5 (zi b hb).1);have P1:=xgv p1;have P2:=xgv p2;have P3:=xgv p3;clear E Y g2 k1 k2 k3 k4 k5 k6 k7 k8 k9 a1 a2 a3 a4 p8 p9 r9 s0 s2 s3 l5 h5 wt zt wi zi G wT Z p1 p2 p3 b5 a5 u a0 l1 g7 n1 N g8 i7;simp only[List.foldl_cons,List.foldl_nil,xgh,xgi,xgj,ptr]at hT;subst hT;simp only[xgl,xgk];obtain⟨Y,g2,g3,g4,g5,g6⟩:=b6.three;go_upto_region 5 with(fail)
 refine zF ?_;intro p d9;have a6:qK (fun b=>b=m) w3 p:=by rw[d9.out];exact⟨yB (zC _ _) (zH _) _ _,b6.lext dE _ _,fun b _ hb=>qC _ _ _ _ _ hb⟩
 have m5:BWq w p:=by rw[d9.out];exact yB h3 oM _ _
 have e8:Blk p m tHW #[.slice P R O,.slice t R c1,.slice z R c2]:=by rw[d9.out];simpa using b6.set_ 2 (.slice z R c2)
 have G:=WA.out.keepZ a6 (by rintro b hb rfl;exact WA.out.nzb b6 dE dE hb);have wT:=WT.out.keepZ a6 (by rintro b hb rfl;exact WT.out.nzb b6 dE dE hb);have Z:=WI.out.keepZ a6 (by rintro b hb rfl;exact WI.out.nzb b6 dE dE hb);have d:=a6.blk d oM;have j:=a6.blk j oM;have f:=a6.blk f i0;have B2:w1.heap.size<=p.heap.size:=by have:=a6.bel.size;omega
 have m9:zFx p (.slice P R O) (.slice t R c1) (.slice z R c2) R C R a8 x S (ent M) idf idf:=⟨G,wT,Z,P1.out.far,P2.out.far,P3.out.far,P1.out.own,P2.out.own,P3.out.own⟩;obtain⟨a7,hZ⟩:∃a7:Nat->Prop,a7=fun b=>b∈a8∨b∈x∨b∈S:=⟨_,rfl⟩
 have o9:zEV true a7 p m (.slice P R O) R C R ⟨ent M,idf,idf⟩:=⟨_,_,a8,x,S,e8,m9,fun b hb=>by rw[hZ];exact hb⟩;have d5:∀b,a7 b->b<p.heap.size:=fun b hb=>by
  rw[hZ]at hb;rcases hb with hb|hb|hb
  exact G.zlt (.inl hb);exact wT.zlt (.inl hb);exact Z.zlt (.inl hb)
 have d6:∀{b:Nat} {T:TypeId} {cs:Array Value},Blk p b T cs->T≠tR->T≠tI->¬ a7 b:=fun hb h1 h2 hz=>by
  rw[hZ]at hz;rcases hz with hz|hz|hz
  exact G.nzb hb h1 h2 (.inl hz);exact wT.nzb hb h1 h2 (.inl hz);exact Z.nzb hb h1 h2 (.inl hz)
 have n6:∀g,(Value.slice P R O).ownBlock=some g->¬ a7 g:=fun g hg hz=>by
  rw[hZ]at hz;rcases hz with hz|hz|hz
  exact G.rown G hz hg;exact wT.rown G hz hg;exact Z.rown G hz hg
 have e6:∀b,Zn (.slice P R O) a8 b∨Zn (.slice t R c1) x b∨Zn (.slice z R c2) S b->b<p.heap.size:=fun b hb=>by
  rcases hb with hb|hb|hb
  exact G.zlt hb;exact wT.zlt hb;exact Z.zlt hb
 have p5:∀b,a7 b->w.heap.size<=b:=fun b hb=>by
  rw[hZ]at hb;rcases hb with hb|hb|hb
  have:=w4 b (.inl hb);omega;have:=ZT.out b (.inl hb);omega;have:=ZI.out b (.inl hb);omega
 have x4:=d6 f dE dE;have x5:=d6 e8 dE dE;have x6:=d6 d dE dE;have x3:=d6 j dE dE;clear d6 hZ Y g2 g3 g4 g5 g6 d9 a6 WA WT WI P1 P2 P3 m9 G wT Z;go_wp2_with fail
 refine(zQF hB HE.out o9 HJ.out J hC J d5 n6).mono ?_;rintro e W ⟨pv,y,Lp,rfl,hO,hz,I,hP⟩;obtain⟨o6,l⟩:=HE.out.ok R y Lp I;obtain⟨po,B9,rfl,-,-,-⟩:=hP.at_;unfold zEV at hz;rw[zB rfl]at hz;obtain⟨i9,k0,l2,l3,l4,r1,r2,r3⟩:=hz;have b0:=hO.blk e8 x5;obtain⟨rfl,rfl⟩: .slice t R c1=i9/\.slice z R c2=k0:=by
  have X:W.heap[m]?=some (.cells #[.slice P R O,.slice t R c1,.slice z R c2] tHW (0,0)):=b0;have U:W.heap[m]?=some (.cells #[.slice P R O,i9,k0] tHW (0,0)):=r1;rw[X]at U;injection U with U
  injection U with U
  simp only[Array.mk.injEq,List.cons.injEq,true_and,and_true]at U;exact U
 have n8:∀b,Zn (.slice P R O) l2 b->¬ (p.heap.size<=b):=fun b hb=>by
  rcases hb with hb|hb
  have:=d5 b (r3 b (.inl hb));omega;have:=e6 b (.inl (.inr hb));omega
 have n9:∀b,Zn (.slice t R c1) l3 b->¬ (p.heap.size<=b):=fun b hb=>by
  rcases hb with hb|hb
  have:=d5 b (r3 b (.inr (.inl hb)));omega;have:=e6 b (.inr (.inl (.inr hb)));omega
 have o0:∀b,Zn (.slice z R c2) l4 b->¬ (p.heap.size<=b):=fun b hb=>by
  rcases hb with hb|hb
  have:=d5 b (r3 b (.inr (.inr hb)));omega;have:=e6 b (.inr (.inr (.inr hb)));omega
 have t8:BWq w W:=zCs m5 (hO.mono (Z':=fun k=>w.heap.size<=k) (fun k _ hk=>p5 k hk)) (xgf _) m5.size;have x2:=j.lt;have x1:=d.lt;have d:=hO.blk d x6;have x0:=f.lt;have j:=hO.blk j x3;have f:=hO.blk f x4;have w8:=e8.lt;have B7:=hO.bel.size;have HL:=xgv l;have s9:=xgv o6;have s7:=xgv I;have b2:=zMe l (s6.out y Lp I);have b8:=xgv (zMf l);have b9:=xgv (zIQ l);have A3:=l.len;go_upto_region 6 with(fail)
 refine zF ?_;intro W6 m8;obtain⟨H,T5,B4⟩:=qJ m8;have m6:=nx t8 H;have HA:=xgv (r2.s.I H);have HU:=xgv (r2.t.I H);have HW:=xgv (r2.i.I H);have HP:=xgv (hP.I H);have b0:=b0.I H;have d:=d.I H;have j:=j.I H;have f:=f.I H;obtain⟨Y,g2,g3,g4,g5,g6⟩:=b0.three;have B3:=H.size;have v6:=b9.out;clear m8 hP l o6 I r1 r2 H e6 p5 o9 d5 n6 v6;go_wp2;go_loopw [36] (fun iv wr=>∃(k:Nat) (v:Value),iv= .int .i64 k/\k<=R/\Blk wr W.heap.size 96 #[v]/\jI (zFz wr p.heap.size v (Lp.map (·.1)++(List.range k).filter fun i=>decide (lead C y.s i<0)))/\Below p.heap.size W6 wr/\zBq W6 wr) (fun iv _=>R-(intOf iv).toNat)
 case atStart=>exact⟨0,_,rfl,oM,T5,⟨by simpa using HP.out⟩,zC _ _,zBq.refl _⟩
 clear T5 HP;obtain⟨k,uv,rfl,hk,T5,HV,hb,hx⟩:=hrel;obtain⟨uo,b7,rfl,-,-,-⟩:=HV.out.at_;obtain⟨un,i5⟩:∃un,(Lp.map (·.1)++(List.range k).filter fun i=>decide (lead C y.s i<0)).length=un:=⟨_,rfl⟩;rw[i5]at T5 HV;have e7:=qK.ofB hb hx;have b4:=HA.out.keepZ e7 n8;have B6:=hb.size;by_cases o3:k<R
 .obtain⟨g,bi,eg,lg,v4,-,p7,-⟩:=qH.at_ b4 (i:=k) (by rw[b4.len];exact o3)
  subst eg;have i4:=b4.rowAt o3 v4;have h4:=i4.vec (qN _ _) (xgf _) oM;clear b4;go_wp2_with fail
  refine(zEz _ _ _ h4).mono ?_;rintro e w7 ⟨rfl,c8⟩;rw[zMO];obtain⟨c0,d0⟩:∃c0,lead C y.s k=c0:=⟨_,rfl⟩;rw[d0];have T7:=T5.I c8;have c7:=xgv (HV.out.I c8);have n0:Below p.heap.size W6 w7:=hb.trans (c8.mono oM);have p4:=hx.trans (lx c8);have B5:=c8.size;by_cases o4:c0<0
  .have u:(List.range (k+1)).filter (fun i=>decide (lead C y.s i<0))=(List.range k).filter (fun i=>decide (lead C y.s i<0))++ [k]:=by rw[zQT,zB (by rw[d0];exact o4)]
   have f9:=xgv u;obtain⟨t1,t2⟩:w7.cell? ⟨W.heap.size,0,none⟩=some (.slice uo un b7)/\w7.frozen? ⟨W.heap.size,0,none⟩=false:=⟨T7.cell 0,T7.frozen 0⟩;have v9:∀w':World,zIi (w'.alloc (.cells #[.int .i64 k] tNn)) (some ⟨w'.heap.size,0,none⟩) [k]:=fun w'=>⟨by simp;omega,fun _=>⟨_,0,_,rfl,heap_alloc_new w' _,fun k e9 hk=>by
    match k with
    |0=>simp at hk;subst hk;rfl
    |k+1=>simp at hk⟩⟩
   have A4:((List.range k).filter fun i=>decide (lead C y.s i<0)).length<=k:=by
    have:=zCY (fun i=>decide (lead C y.s i<0)) (List.range k);simpa using this
   have l7:=T7.lt;clear d0 u h4 i4 p7;go_wp2_with (at_builtin;refine qA8 rfl _ _ rfl p.heap.size (.slice uo un b7) _ rfl (c7.out.alloc _) (some ⟨w7.heap.size,0,none⟩) 1 1 [k] rfl (v9 w7) rfl (by simp only[List.length_append,List.length_map];omega) (by simp;omega) ?_;intro v' w' o8 d4;obtain⟨vo,vn,C0,rfl⟩:∃a b c,v'= .slice a b c:=(by obtain⟨B8,q,r,-,-,-⟩:=o8.at_;exact⟨_,_,_,r⟩);have T8:Blk w' W.heap.size 96 #[.slice uo un b7]:=(d4.block _ (T7.alloc _).lt (fun e=>c7.out.ne T7 dE e.symm)).trans (T7.alloc _);obtain⟨t3,t4⟩:w'.cell? ⟨W.heap.size,0,none⟩=some (.slice uo un b7)/\w'.frozen? ⟨W.heap.size,0,none⟩=false:=⟨T8.cell 0,T8.frozen 0⟩)
   have d4:World.grownBy (w7.alloc (.cells #[.int .i64 k] tNn)) w' (Value.ownBlock (.slice uo un b7)):=d4;have T8:Blk w' W.heap.size 96 #[.slice uo un b7]:=T8;have v7:zBq w7 w':=(lx ((zC _ _).alloc (xgf _) _)).trans (zEf (c7.out.alloc _).2 dE d4);have v3:Below p.heap.size W6 w':=(n0.alloc oM _).grown d4 (by simp;omega) (fun g hg=>(c7.out.own g hg).1);go_roundw
   case rel=>
    refine⟨k+1,_,by simp,oM,by simpa using T8.set_ 0 _,⟨?_⟩,yB v3 oM _ _,(p4.trans v7).trans (T8.lext dE _ _)⟩;rw[f9.out,<-zAu];exact o8.far T8 dE 0 _
   case measure=>exact meq
  have u:(List.range (k+1)).filter (fun i=>decide (lead C y.s i<0))=(List.range k).filter (fun i=>decide (lead C y.s i<0)):=by rw[zQT,zA (by rw[d0];exact o4),zBS]
  have f9:=xgv u;clear d0 u h4 i4 p7;go_wp2;go_roundw
  case rel=>exact⟨k+1,_,by simp,oM,T7,⟨by rw[f9.out];exact c7.out⟩,n0,p4⟩
  case measure=>exact meq
 obtain rfl:R=k:=oM;have o7:zMu R C y.s Lp=Lp.map (·.1)++(List.range R).filter fun i=>decide (lead C y.s i<0):=rfl
 rw[<-o7]at HV i5;obtain⟨os,i3⟩:∃os,zMu R C y.s Lp=os:=⟨_,rfl⟩;rw[i3]at HV i5 b8 b9 b2;have l0:=xgv i3;have t6:=xgv b4;have t0:=xgv (HU.out.keepZ e7 n9);have t5:=xgv (HW.out.keepZ e7 o0);have b0:=b0.belowB hb w8;have f:=f.belowB hb x0;have j:=j.belowB hb x2;have d:=d.belowB hb x1;have v0:BWq w wr:=zCs m6 ((qK.ofB hb hx).mono (Z':=fun k=>w.heap.size<=k) (fun k _ hk=>by omega)) (xgf _) m6.size;have n1:=f.cell 0;obtain⟨k1,k2,k3,-,-,-⟩:=j.three;have h9:=zFg R C (os.map fun i=>yV C (y.s i));have n7:=zFg R R (os.map fun i=>yV R (y.t i));have A5:=zFg R R (os.map fun i=>yV R (y.i i));have A6:=zFg R R (genM R R fun a b=>y.i (os.getD b 0) a);have A7:=zNa R C (os.map fun i=>yV C (y.s i)) (os.map fun i=>yV R (y.t i)) (genM R R fun a b=>y.i (os.getD b 0) a);obtain⟨Y,g2,g3,-,-,-⟩:=b0.three;clear o7 i3 b4 e7 n8 n9 o0 HA HU HW hb hx g4 g5 g6;go_upto_region 13 with(fail)
 refine yA 24 [pcD 7 [] (zXD R C (os.map fun i=>yV C (y.s i))),pcD 14 [] (zXD R R (os.map fun i=>yV R (y.t i))),pcD 21 [] (zXD R R (os.map fun i=>yV R (y.i i))),pcD 22 [21] (zXD R R (genM R R fun a b=>y.i (os.getD b 0) a)),pcD 23 [7,14,22] (zXr R C (os.map fun i=>yV C (y.s i)) (os.map fun i=>yV R (y.t i)) (genM R R fun a b=>y.i (os.getD b 0) a))] ?_;refine sRd ?_;refine sRc (fun s hI Gk D=>by go_simp;exact ck D (zHM _ _ R C Q _ _ l2 _ _ _ (t6.out.I hI.bel) (f.I hI.bel) (T5.I hI.bel) (HV.out.I hI.bel) b8.out b9.out J hC b2)) (fun C4 _=>?_);refine sRd ?_;refine sRc (fun s hI Gk D=>by go_simp;exact ck D (zHM _ _ R R Q _ _ l3 _ _ _ (t0.out.I hI.bel) (f.I hI.bel) (T5.I hI.bel) (HV.out.I hI.bel) b8.out b9.out J J b2)) (fun C1 _=>?_);refine sRd ?_;refine sRc (fun s hI Gk D=>by go_simp;exact ck D (zHM _ _ R R Q _ _ l4 _ _ _ (t5.out.I hI.bel) (f.I hI.bel) (T5.I hI.bel) (HV.out.I hI.bel) b8.out b9.out J J b2)) (fun C2 _=>?_);refine sRc (fun s hI h8 Gk D=>by go_simp;exact ck D (zST hB.bsm h8 b2 b8.out s9.out.2.2 J)) (fun C3 _=>?_);refine sRc (fun s hI d3 d1 d2 Gk D=>?_) (fun x9 _=>?_)
 .obtain⟨xo,xc,rfl,d3⟩:=d3
  obtain⟨yo,yc,rfl,d1⟩:=d1;obtain⟨zo,zc,rfl,d2⟩:=d2;go_simp;exact⟨D _ _ ⟨xo,xc,yo,yc,zo,zc,rfl,d3,d1,d2⟩,zC _ _⟩
 refine sRe ?_;intro w9 n3 d3 d1 h8 d2 v5;obtain⟨xo,xc,yo,yc,zo,zc,rfl,h7,l6,l8⟩:zXr R C (os.map fun i=>yV C (y.s i)) (os.map fun i=>yV R (y.t i)) (genM R R fun a b=>y.i (os.getD b 0) a) w9 x9:=v5;have d:=d.I n3;have t9:=nx v0 n3;have H7:=xgv h7;have s4:=xgv l6;have s5:=xgv l8;obtain⟨⟨r0,r1,r2,r3,r4,r5,r6,r7,r8⟩,⟨f0,f1,f2,f3,f4,f5,f6,f7,f8⟩⟩:=d.all9;clear h7 l6 l8 d3 d1 h8 d2 Y g2 g3 n1 k1 k2 k3;go_wp2;have v8:=d.lext9 dE (.int .i64 R) (.int .i64 C) (.slice xo R xc) (.int .i64 R) (.int .i64 R) (.slice yo R yc) (.int .i64 R) (.int .i64 R) (.slice zo R zc);have i6:∀{v:Value} {M:List (List Int)},zBg w9 v M->zBg _ v M:=fun h=>h.off d dE dE (fun b hb=>zQe w9 (w.heap.size+1) b _ _ _ _ _ _ _ _ _ hb) v8
 refine bodyPost_ret (results_cell_row rfl _ _ (w.heap.size+1) _ _ _ _ rfl (d.put9 _ _ _ _ _ _ _ _ _) Tryz.underlying108 rfl (by rw[Tryz.sizeHe];rfl)) rfl ⟨_,y,Lp,rfl,s7.out,by rw[l0.out];exact b2,by rw[l0.out];exact⟨_,_,_,rfl,i6 H7.out,i6 s4.out,i6 s5.out⟩,zXF t9 oM _ _ _ _ _ _ _ _ _⟩
structure zEh(R C r:Nat)(c:Nat->Nat)(A H U V:Nat->Nat->Int):Prop where
 hnf:Hnf C R r c H
 mul:∀a,a<R->∀b,b<C->H a b=qS R fun t=>U a t*A t b
 inv:∀a,a<R->∀b,b<R->qS R (fun t=>U a t*V t b)=idf a b
 back:∀a,a<R->∀b,b<C->A a b=qS R fun t=>V a t*H t b
theorem zEh.sp{A:Nat->Nat->Int}(h:zEh R C r c A H U V):zKl R C H A:=⟨V,h.back⟩
theorem zN4{σ:Nat->Nat}(f:Nat->Int)(o:∀k,k<n->σ k<n)(m:∀a b,a<n->b<n->σ a=σ b->a=b)(p:∀t,t<n->∃k,k<n/\σ k=t):qS n f=qS n fun k=>f (σ k):=by
 have l:qS n f=qS n fun t=>qS n fun k=>if σ k=t then f t else 0:=zL fun t q=>by
  obtain⟨k,d,e⟩:=p t q;rw[zBA (c:=k) d (fun i h g=>zA fun j=>g (m i k h d (j.trans e.symm))),zB e]
 rw[l,zBs];refine zL fun k d=>?_
 rw[zBA (c:=σ k) (o k d) (fun i h g=>zA fun e=>g e.symm),zB rfl]
theorem zEh.sp'{A:Nat->Nat->Int}(h:zEh R C r c A H U V):zKl R C A H:=⟨U,h.mul⟩
theorem zWO{L:List (Nat × Nat)}(f:∀a,a<n->(∀k,k<L.length->(L.getD k (0,0)).1≠a)->lead C F a<0)(b:a<n):a∈zMu n C F L:=by
 by_cases d:a∈L.map (·.1)
 .exact List.mem_append.2 (.inl d)
 refine List.mem_append.2 (.inr ?_);simp only[List.mem_filter,List.mem_range,decide_eq_true_eq];refine⟨b,f a b fun k c e=>d ?_⟩;rw[<-e,xgb,xga c];exact List.mem_map.2 ⟨_,zAq c,rfl⟩
def zGv(n C:Nat)(F:Nat->Nat->Int)(L:List (Nat × Nat))(a:Nat):Nat:=(zMu n C F L).getD a 0
theorem zGb{L:List (Nat × Nat)}(a:k<L.length):zGv n C F L k=zB6 L k:=by
 unfold zGv zMu zB6;rw[xgb,List.getElem?_append_left (by simpa using a),List.getElem?_map,xga a,xgb,xga a];rfl
theorem zT5{L:List (Nat × Nat)}(h1:L.length<=k)(h2:k<(zMu n C F L).length):lead C F (zGv n C F L k)<0:=by
 unfold zGv;have e:(zMu n C F L)[k]?=((List.range n).filter fun i=>decide (lead C F i<0))[k-L.length]?:=by
  unfold zMu;rw[List.getElem?_append_right (by simpa using h1)];simp
 rw[xgb,xga h2];rw[xga h2]at e;have:=xgd e.symm;simp only[List.mem_filter,decide_eq_true_eq]at this;exact this.2
theorem zMF{Ct M0:Nat}{A:Nat->Nat->Int}{y:Bst}{L:List (Nat × Nat)}(h:JC R C Ct M0 ⟨A,idf,idf⟩ R g y L)(D:zF0 (fun _ _=>True) L.length (zGQ L) (vw (zB6 L) y.s))(H:(zMu R C y.s L).length=R):
  zEh R C L.length (zGQ L) A (fun a b=>y.s (zGv R C y.s L a) b) (fun a b=>y.t (zGv R C y.s L a) b) (fun a b=>y.i (zGv R C y.s L b) a):=by
 obtain⟨l,p,n⟩:=h.ops;rw[zHL]at n;have u:y.s=zBF l A:=by rw[n]
 have d:y.t=zBF l idf:=by rw[n]
 have q:y.i=zNh l idf:=by rw[n]
 have s:=h.lok (xgf _);have E:∀a,a<R->(∀k,k<L.length->(L.getD k (0,0)).1≠a)->lead C y.s a<0:=fun a c B=>by
  rw[zFh (h.zero a c B)];decide
 have o:∀a,a<R->zGv R C y.s L a<R:=fun a c=>by
  unfold zGv;rw[xgb,xga oM];exact zMf s _ (zAq _)
 have v:∀a b,a<R->b<R->zGv R C y.s L a=zGv R C y.s L b->a=b:=fun a b c f e=>by
  unfold zGv at e;rw[xgb,xga oM,xgb,xga oM]at e;exact(jN (h₀:=by omega) (h₁:=by omega) (zIQ s)).1 e
 have F:∀t,t<R->∃a,a<R/\zGv R C y.s L a=t:=fun t d=>by
  obtain⟨a,c,e⟩:=qZ (zWO E d);refine⟨a,oM,?_⟩;unfold zGv;rw[xgb,xga c];exact e
 refine⟨⟨zD h.len (xgf _),⟨h.ech.lt,fun k m=>?_,fun k m t d=>?_,h.ech.inc⟩,fun i j z r _=>?_,fun a x G t d=>?_⟩,fun a c b f=>?_,fun a c b f=>?_,?_⟩
 .show 0<y.s (zGv R C y.s L k) (zGQ L k)
  rw[zGb m];exact h.ech.pos k m
 .show y.s (zGv R C y.s L k) t=0
  rw[zGb m];exact h.ech.zero k m t d
 .show 0<=y.s (zGv R C y.s L i) (zGQ L j)/\y.s (zGv R C y.s L i) (zGQ L j)<y.s (zGv R C y.s L j) (zGQ L j)
  rw[zGb oM,zGb r];exact D i j z r trivial
 exact zHk (zT5 x oM) t d
 .show y.s (zGv R C y.s L a) b=qS R fun t=>y.t (zGv R C y.s L a) t*A t b
  rw[d];conv=>lhs;rw[show y.s (zGv R C y.s L a) b=zBF l A (zGv R C y.s L a) b from by rw[<-u]]
  exact zKG p A _ (o a c) b
 .show qS R (fun t=>y.t (zGv R C y.s L a) t*y.i (zGv R C y.s L b) t)=idf a b
  rw[d,q];have:=zIP p (P:=idf) (Q:=idf) (C:=R) (fun a c b f=>zIG R a c b f) _ (o a c) _ (o b f);unfold dot at this;rw[this];unfold idf;by_cases e:a=b
  .rw[zB e,zB (by rw[e])]
  rw[zA e,zA (fun w=>e (v a b c f w))]
 intro a c b f;show A a b=qS R fun t=>y.i (zGv R C y.s L t) a*y.s (zGv R C y.s L t) b
 rw[<-zN4 (σ:=zGv R C y.s L) (fun t=>y.i t a*y.s t b) o v F,q,u];exact zEZ p A a c b
theorem zJK(h:os.length=n):(os.map fun i=>yV C (F i))=genM n C fun a b=>F (os.getD a 0) b:=by
 refine qX (by simp[genM,h]) fun i c d=>?_
 simp only[List.length_map]at c;simp only[genM,yV,List.getElem_map,List.getElem_range];rw[xgb,xga c];rfl
theorem zZD:∃n:Nat,n=B32^zOQ:=⟨_,rfl⟩
noncomputable def BD:Nat:=zZD.choose
theorem zSb:BD=B32^zOQ:=zZD.choose_spec
theorem zJT:BSd BD:=⟨fun z a=>by rw[zSb]at a;exact⟨a⟩⟩
theorem zZF:∃n:Nat,n=2^40:=⟨_,rfl⟩
noncomputable def E40:Nat:=zZF.choose
theorem zFN{D:Nat}(h:a<=32*D):2^a<=B32^D:=by
 rw[show B32=2^32 from rfl,<-jT];exact zX oM h
theorem zMH(n M:Nat)(h:1<=M):leM M n n idf:=fun a _ b _=>by
 unfold idf;split<;>simp<;>omega
theorem zHZ{A:Nat->Nat->Int}(σ τ:Nat->Nat)(c:∀a,a<n->σ a<n)(f:∀a,a<n->τ a<n):det n A∣det n fun a b=>A (σ a) (τ b):=by
 refine zGA (R:=n) (C:=n) (F:=A) (fun σ τ c f d g=>?_) σ τ c f;have h:∀σ:Nat->Nat,(∀a,a<n->σ a<n)->Inc n σ->∀a,a<n->σ a=a:=fun σ c d a e=>by
  have r:=d.le a e;have i:∀j,a+j<n->σ a+j<=σ (a+j):=fun j=>by
   induction j with
   |zero=>intro _;exact xgf _
   |succ j q=>
    intro g;have k:=d (a+j) oM;have l:=q oM;have m:a+(j+1)=a+j+1:=rfl;rw[m];omega
  have k:=i (n-1-a) oM;have l:=c (a+(n-1-a)) oM;omega
 have p:det n (fun a b=>A (σ a) (τ b))=det n A:=zAs fun a e b o=>by rw[h σ c d a e,h τ f g b o]
 rw[p];exact zAh _
def qBu(n:Nat)(F:Nat->Nat->Int)(j:Nat):Int:=qS j fun t=>sg1 t*(F 0 t*det n (mnr F 0 t))
end Go.Proofs.YtkidaebmhlijlaaGreat
