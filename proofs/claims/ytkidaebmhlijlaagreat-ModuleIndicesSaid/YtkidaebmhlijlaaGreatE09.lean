/- Joined. -/
import Derived.Test.YtkidaebmhlijlaaGreatE07
import Derived.Test.YtkidaebmhlijlaaGreatE08
set_option linter.unusedVariables false
set_option linter.unusedSimpArgs false
set_option linter.unusedSectionVars false
set_option maxHeartbeats 16000000
set_option maxRecDepth 100000
variable{a:Go.Act}{cs:Array Go.Value}{x:Int}{M rs:List (List Int)}{ls r zs:List Int}{S bs:List Nat}{xs:List Go.Value}{C R b base base' bi bj cap g i j n:Nat}{F f:Nat->Nat->Int}{o:Go.Oper}{ao:Option Go.Addr}{T:Go.TypeId}{A v:Go.Value}{W w w':Go.World}
namespace Go.Proofs.YtkidaebmhlijlaaGreat
open Go.RowKit
theorem zGZ(v:Value)(R C:Int)(M:List (List Int))(w:World)(h:zG3 w v R C M):
  CPq 85 #[v] w fun e w'=>e= .returned (.bool (decide (zBX R C M)))/\BWq w w':=by
 obtain⟨A,rfl,h⟩:=h;obtain⟨ao,n,cap,rfl,D,e3,e4,-⟩:=id h;have s:=xgw D;clear D;by_cases f:0<=R/\0<=C/\(n:Int)=R
 .obtain⟨P,Q,rfl⟩:=f
  have hd:decide (zBX n C M)=decide (∀r∈M,(r.length:Int)=C):=decide_eq_decide.2 ⟨fun h=>h.2.2.2,fun h=>⟨P,Q,by rw[s.out],h⟩⟩;rw[hd];clear hd;go_enter Tryz.func85,Tryz.ntmps85;go_upto_region 1 with(fail)
  refine zF ?_;intro y l;obtain⟨g,d,z⟩:=qJ l;have p:=d.three;go_wp2;clear p;go_loopw [26] (fun i wr=>∃k:Nat,k<=n/\i=niq k/\BWq w wr/\Blk wr w.heap.size 32 #[niq n,niq C,.slice ao n cap]/\Hid (∀r∈M.take k,(r.length:Int)=C)) (fun i _=>n-(intOf i).toNat)
  case atStart=>exact⟨0,oM,rfl,g,d,by rw[jW];exact xgw (fun r hr=>by cases hr)⟩
  obtain⟨k,hk,rfl,t,d,f⟩:=hrel;have p:=d.three;by_cases Z:k<n
  .obtain⟨b,o,ra,q,rc,zs,rfl,a4,K,p1,I⟩:=(h.I t).row (k:=k) (by rw[s.out];exact Z)
   have B:=xgw K;have J:=I.len;have x:=xgw J.1;obtain⟨-,a6,a7⟩:=J;clear K;by_cases H:(q:Int)=C
   .go_wp2
    clear p;go_loopw [37] (fun j L=>∃m:Nat,m<=q/\j=niq m/\BWq wr L) (fun j _=>q-(intOf j).toNat)
    case atStart=>exact⟨0,oM,rfl,zC _ _⟩
    rename World=>L
    obtain⟨m,hm,rfl,u⟩:=hrel;by_cases a0:m<q
    .obtain⟨b',a3,b0,a,a9,c,rfl,a5,a1,q1,q2,a2⟩:=(I.I u).cell (k:=m) (by rw[x.out];exact a0)
     clear a1;go_upto_region 11 with(fail)
     refine zF ?_;intro O F;obtain⟨E,N,a8⟩:=qJ F;have d1:=N.two;clear q1 q2 F;go_wp2_with fail
     refine(zOL _ a3 O (a2.ext (lx E))).mono ?_;rintro e w7 ⟨rfl,W⟩;go_wp2;go_roundw
     case rel=>exact⟨m+1,oM,by simp,nx (nx u E) W⟩
     case measure=>exact meq
    obtain rfl:m=q:=oM;have d:=d.I u;go_wp2;go_roundw
    case rel=>
     refine⟨k+1,oM,by simp,nx t u,d,xgw ?_⟩;rw[jH,B.out];intro r hr;rcases List.mem_append.1 hr with hr|hr
     exact f.out r hr;simp at hr;rw[hr,x.out,H]
    case measure=>exact meq
   go_wp2;go_ret;refine⟨?_,t⟩;have X:¬ ∀r∈M,(r.length:Int)=C:=fun Y=>H (by rw[<-x.out];exact Y zs (xgd B.out))
   rw[zT X];rfl
  obtain rfl:k=n:=oM;go_wp2;go_ret;refine⟨?_,t⟩;have:=f.out;rw[<-s.out,jO]at this;rw[zQ this];rfl
 have G:¬ zBX R C M:=by
  rintro⟨a,b,c,-⟩;exact f ⟨a,b,by rw[<-s.out];exact c⟩
 rw[zT G];clear G;by_cases U:0<=R
 .have V:¬ R<0:=oM
  by_cases S:0<=C
  .have hn:¬ (n:Int)=R:=fun h=>f ⟨U,S,h⟩
   have T:¬ C<0:=oM;clear f;go_enter Tryz.func85,Tryz.ntmps85;go_upto_region 1 with(fail)
   refine zF ?_;intro y l;obtain⟨g,d,z⟩:=qJ l;have p:=d.three;go_wp2;go_ret;exact⟨rfl,g⟩
  have T:C<0:=oM;clear f;go_enter Tryz.func85,Tryz.ntmps85;go_upto_region 1 with(fail)
  refine zF ?_;intro y l;obtain⟨g,d,z⟩:=qJ l;have p:=d.three;go_wp2;go_ret;exact⟨rfl,g⟩
 have V:R<0:=oM;clear f;go_enter Tryz.func85,Tryz.ntmps85;go_upto_region 1 with(fail)
 refine zF ?_;intro y l;obtain⟨g,d,z⟩:=qJ l;have p:=d.three;go_wp2;go_ret;exact⟨rfl,g⟩
theorem zDf(v:Value)(R C:Int)(M:List (List Int))(w:World)(h:zAQ w v R C M):
  CPq 85 #[v] w fun e w'=>e= .returned (.bool (decide (zBX R C M)))/\BWq w w':=zGZ v R C M w h.off
def zEx:Nat->List (List Int)->Bool
 |_,[]=>true
 |i,r::rs=>decide (zG4 i r.length r) && zEx (i+1) rs
theorem zQ6(h:¬ zG4 i r.length r):zEx i (r::rs)=false:=by
 unfold zEx;rw[zT h,Bool.false_and]
theorem zOe(h:zG4 i r.length r):zEx i (r::rs)=zEx (i+1) rs:=by
 conv=>lhs;unfold zEx
 rw[zQ h,Bool.true_and]
theorem zNK(v:Value)(R C:Int)(M:List (List Int))(w:World)(h:zAQ w v R C M):
  CPq 159 #[v] w fun e w'=>e= .returned (.bool (zEx 0 M))/\BWq w w':=by
 obtain⟨A,rfl,h⟩:=h;obtain⟨ao,n,cap,rfl,E,e3,e4,-⟩:=id h;have y:=xgw E;clear E;go_enter Tryz.func159,Tryz.ntmps159;go_upto_region 1 with(fail)
 refine zF ?_;intro W0 T;obtain⟨S,P,b0⟩:=qJ T;have Q:=P.three;go_wp2;clear Q;go_loopw [10] (fun i wr=>∃k:Nat,k<=n/\i=niq k/\BWq w wr/\Hid (zEx 0 M=zEx k (M.drop k))) (fun i _=>n-(intOf i).toNat)
 case atStart=>exact⟨0,oM,rfl,S,by rw[xgk];exact xgw rfl⟩
 obtain⟨k,hk,rfl,g,u⟩:=hrel;by_cases Y:k<n
 .obtain⟨b,ra,q,rc,zs,rfl,a3,K,p1,I⟩:=(h.I g).row (k:=k) (by rw[y.out];exact Y)
  have B:=xgw K;have J:=I.len;have r:=xgw J.1;obtain⟨-,a8,a9⟩:=J;clear K;go_wp2;go_loopw [17] (fun j a1=>∃m:Nat,m<=q/\j=niq m/\BWq wr a1/\Hid (∀c,c<m->c≠k->zs.getD c 0=0)) (fun j _=>q-(intOf j).toNat)
  case atStart=>exact⟨0,oM,rfl,zC _ _,xgw (fun c h=>absurd h oM)⟩
  obtain⟨m,hm,rfl,l,x⟩:=hrel;by_cases H:m<q
  .obtain⟨b',z,b4,a,b3,a2,rfl,a4,L,q1,q2,a0⟩:=(I.I l).cell (k:=m) (by rw[r.out];exact H)
   have D:=xgw L;clear L;go_upto_region 7 with(fail)
   refine zF ?_;intro O F;obtain⟨s,N,b2⟩:=qJ F;have d1:=N.two;clear q1 q2 F;by_cases W:m=k
   .subst W
    go_wp2;go_roundw
    case rel=>exact⟨m+1,oM,by simp,nx l s,xgw (fun c f d=>x.out c oM d)⟩
    case measure=>exact meq
   have X:¬ (k:Int)=(m:Int):=oM;have a5:((k:Int) !=(m:Int))=true:=by simpa using X
   go_wp2_with fail
   refine(zAw _ z O (a0.ext (lx s)).J).mono ?_;rintro e w7 ⟨rfl,U⟩;have G:=nx (nx l s) U;by_cases o:z=0
   .rw[zBL o]
    go_wp2;go_roundw
    case rel=>
     refine⟨m+1,oM,by simp,G,xgw (fun c f d=>?_)⟩;rcases zK c m with h3|h3
     exact x.out c h3 d;obtain rfl:c=m:=oM;rw[zB8 D.out,o]
    case measure=>exact meq
   have t:=zCm o;obtain⟨p,V⟩:∃p,zAv z 0=p:=⟨_,rfl⟩;rw[V]at t ⊢
   have a6:(p==0)=false:=by simpa using t
   have a7:(p !=0)=true:=by simpa using t
   go_wp2;go_ret;refine⟨?_,nx g G⟩;rw[u.out,zDq B.out,zQ6 (fun Z=>o (by rw[<-zB8 D.out];exact Z m (by rw[r.out];exact H) oM))];rfl
  obtain rfl:m=q:=oM;go_wp2;go_roundw
  case rel=>
   refine⟨k+1,oM,by simp,nx g l,xgw ?_⟩;rw[u.out,zDq B.out,zOe (by intro c f d;rw[r.out]at f;exact x.out c f d)]
  case measure=>exact meq
 obtain rfl:k=n:=oM;go_wp2;go_ret;refine⟨?_,g⟩;rw[u.out,qP (zBT y.out)];rfl
theorem Tryz.infoI:(Tryz.prog.info? tI).map (fun i=>(i.zero,i.size,i.bytes))=some (some (.agg #[.bool false,.slice none 0 0]),2,32):=by kernel_rfl
abbrev zEW:=@Tryz.infoI
def zZE(w:World)(cells:List Value)(zs:List Int):Prop:=
 ∀(k:Nat) (z:Int),zs[k]?=some z->∃s a l c,cells[k*2]?=some (.bool s)/\cells[k*2+1]?=some (.slice a l c)/\jE w (.agg #[.bool s,.slice a l c]) z
def zEt(w:World)(base:Nat)(v:Value)(zs:List Int):Prop:=∃cells,w.ownsRow base tI 2 v zs.length cells/\zZE w cells zs
theorem zEt.nil(w:World)(base:Nat):zEt w base (.slice none 0 0) []:=⟨[],zCR _ _ _ _,fun k z h=>by simp at h⟩
theorem zEt.I(h:zEt w base v zs)(b:BWq w w'):zEt w' base v zs:=by
 obtain⟨e,j,m⟩:=h;refine⟨e,j.kept (row:=none) ⟨b.os,b.tape,b.output,b.size,fun k d _=>b.block k d⟩ (by cases n:v.ownBlock<;>simp),fun k z d=>?_⟩;obtain⟨s,a,l,c,f,g,i⟩:=m k z d;exact⟨s,a,l,c,f,g,i.ext (lx b)⟩
theorem zEt.vec(h:zEt w base v zs):zBy w v zs:=by
 obtain⟨t,⟨u,j⟩,m⟩:=h;rcases j with⟨rfl,p⟩|⟨g,cap,f,rfl,x,o,q,n,A,r⟩
 .have:zs= []:=qL p
  subst this;exact zBy.nil w
 refine⟨some ⟨g,0,none⟩,zs.length,cap,rfl,rfl,q,n,fun _=>⟨g,rfl,f,o,fun k z e=>?_⟩⟩;obtain⟨s,a,l,c,b,d,i⟩:=m k z e;have y:k<zs.length:=(xge.1 e).1;rw[<-r,List.getElem?_take_of_lt oM]at b d;exact⟨s,a,l,c,by simpa using b,by simpa using d,i⟩
theorem zEt.len(h:zEt w base v zs):∃ao cap,v= .slice ao zs.length cap/\zs.length<=cap/\cap<=9223372036854775807:=by
 obtain⟨ao,n,cap,a,b,c,d,-⟩:=h.vec;subst b;exact⟨ao,cap,a,c,d⟩
theorem zEf{e:TypeId}{size:Nat}(h:w.ownsRow base e size v n xs)(f:e≠tU)(i:w.grownBy w' v.ownBlock):zBq w w':=by
 intro b cs p a;have l:=(Array.getElem?_eq_some_iff.1 a).1;by_cases c:v.ownBlock=some b
 .exfalso
  rcases h.2 with⟨rfl,-⟩|⟨g,cap,o,rfl,-,d,-⟩
  cases c;simp only[Value.ownBlock,Option.some.injEq]at c;subst c;rw[d]at a;injection a with a
  injection a with _ m
  exact f m
 have q:∀k,v.ownBlock=some k->b≠k:=fun k j e=>c (by rw[j,e])
 rw[i.block b l (by
  intro d;exact c d.symm)]
 exact a
theorem qAK{w:World}{ops:Array Oper}{rest:List Oper}{a:Act}{Q:Exit->Act->World->Prop}(J:o.guard=none)(s x:Operand)
  (O:o.op= .call {callee:=.builtin .append,args:=#[s,x],argTypes:=#[46,46]})
  (base:Nat) (v:Value) (zs:List Int) (R:a.eval s=v) (P:zEt w base v zs) (b:Nat) (c:Nat) (m:Bool) (g:Option Addr) (l i:Nat) (z:Int) (f:a.eval x=slq b 1 c)
  (H:Blk w b tI #[.bool m,.slice g l i]) (S:jE w (.agg #[.bool m,.slice g l i]) z)
  (a2:zs.length+1<=1099511627776) (I:base<=w.heap.size)
  (h:∀n w',zEt w' base n (zs++ [z])->w.grownBy w' v.ownBlock->zBq w w'->wpList Tryz.prog ops Q rest (a.put o.dst n) w'):wpList Tryz.prog ops Q (o::rest) a w:=by
 obtain⟨W,L,T,U,V⟩:=info_parts zEW;obtain⟨p,q,G⟩:=P;have r:p.length=zs.length*2:=q.1;obtain⟨B,C,-,-⟩:=H.two;refine wpList_append_own w J s x 46 O base tI W _ 2 32 zCQ L T U V rfl oM v zs.length p R q ⟨b,0,none⟩ 1 c [.bool m,.slice g l i] f rfl ?_ ?_ (by simp[maxLen];omega) oM I ?_
 .intro j a0 e
  rw[zAg];match j with
  |0=>simp at e;subst e;exact B
  |1=>simp at e;subst e;exact C
  |j+2=>simp at e
 .intro a0 t
  simp at t;rcases t with rfl|rfl<;>rfl
 intro n w' X u _;have f:=zEf q dE u;refine h n w' ⟨p++ [.bool m,.slice g l i],by simpa using X,?_⟩ u f;intro k a1 d;rcases zK k zs.length with N|K
 .rw[List.getElem?_append_left N]at d
  obtain⟨Z,y,Y,A,D,E,F⟩:=G k a1 d;exact⟨Z,y,Y,A,by rw[List.getElem?_append_left oM];exact D,by rw[List.getElem?_append_left oM];exact E,F.ext f⟩
 rw[List.getElem?_append_right K]at d;have M:k=zs.length:=by
  have:=(xge.1 d).1;simp at this;omega
 subst M;simp at d;subst d;refine⟨m,g,l,i,?_,?_,S.ext f⟩;rw[List.getElem?_append_right oM,r];simp;rw[List.getElem?_append_right oM,r];rw[show zs.length*2+1-zs.length*2=1 by omega];rfl
theorem zEt.own(h:zEt w base v zs):∀g,v.ownBlock=some g->base<=g:=by
 intro g a;obtain⟨c,⟨f,b⟩,i⟩:=h;rcases b with⟨rfl,k⟩|⟨e,cap,d,rfl,j,-⟩
 cases a;simp only[Value.ownBlock,Option.some.injEq]at a;omega
theorem zEt.mono(h:zEt w base v zs)(k:base'<=base):zEt w base' v zs:=by
 obtain⟨b,⟨i,a⟩,j⟩:=h;refine⟨b,⟨i,?_⟩,j⟩;rcases a with a|⟨g,cap,c,d,e,f⟩
 exact .inl a;exact .inr ⟨g,cap,c,d,zD k e,f⟩
theorem zEt.set2{r:Nat}(h:zEt w base v zs)(b:r<base){t:TypeId}(m:Blk w r t cs)(o:t≠tU)(x y:Value):zEt ((w.setCell ⟨r,0,none⟩ x).setCell ⟨r,1,none⟩ y) base v zs:=by
 have p:=m.lext2 o x y;obtain⟨d,i,j⟩:=h;refine⟨d,ownsRow_setCell_below (ownsRow_setCell_below i (a:=⟨r,0,none⟩) b x) (a:=⟨r,1,none⟩) b y,fun k z n=>?_⟩;obtain⟨s,a,l,c,e,f,g⟩:=j k z n;exact⟨s,a,l,c,e,f,g.ext p⟩
def zHa(M:List (List Int))(n:Nat):List Int:=(List.range n).map fun k=>(M.getD k []).getD k 0
theorem zQ8(M:List (List Int))(n:Nat):zHa M (n+1)=zHa M n++ [(M.getD n []).getD n 0]:=by
 unfold zHa;rw[zCy,zBl];rfl
theorem zF8(M:List (List Int))(n:Nat):(zHa M n).length=n:=by simp[zHa]
theorem zIm(v:Value)(R C:Nat)(M:List (List Int))(w:World)(h:zAQ w v R C M)(hF:zBW R C M)(hR:R<=1000000)(hC:C<=1000000):
  CPq 116 #[v] w fun e w'=>∃u,e= .returned u/\zEt w' w.heap.size u (zHa M (min R C))/\BWq w w':=by
 obtain⟨A,rfl,h⟩:=h;obtain⟨ao,n,cap,rfl,o,Z,e4,-⟩:=id h;have K:=xgw o;obtain⟨E,F⟩:=hF;have J:=xgw F;obtain rfl:n=R:=by rw[<-o,E]
 obtain⟨m,T⟩:∃m,min n C=m:=⟨_,rfl⟩;have a5:m<=n:=oM;have a3:m<=C:=oM;have a4:min (n:Int) (C:Int)=(m:Int):=oM;rw[T];clear o E F;go_enter Tryz.func116,Tryz.ntmps116;go_upto_region 2 with(fail)
 refine zF ?_;intro X P;obtain⟨N,d,a7⟩:=qJ P;obtain⟨r,t,x,y,B,D⟩:=d.three;go_wp2;clear r t x y B D;go_loopw [3,10] (fun u q wr=>∃k:Nat,k<=m/\q=niq k/\zEt wr (w.heap.size+1) u (zHa M k)/\BWq w wr/\Blk wr w.heap.size 32 #[niq n,niq C,.slice ao n cap]) (fun _ q _=>m-(intOf q).toNat)
 case atStart=>exact⟨0,oM,rfl,zEt.nil _ _,N,d⟩
 obtain⟨k,hk,rfl,j,f,d⟩:=hrel;by_cases a2:k<m
 .obtain⟨r,t,x,y,B,D⟩:=d.three
  obtain⟨b,ra,I,rc,zs,rfl,a0,p,p1,G⟩:=(h.I f).row (k:=k) (by rw[K.out];omega);have V:=J.out zs (xgd p);have a6:=G.len.1;obtain rfl:I=C:=oM;obtain⟨Y,z,s,a,l,c,rfl,a1,H,q1,q2,W⟩:=G.cell (k:=k) oM;have hd:Hid (zHa M (k+1)=zHa M k++ [z]):=by
   rw[zQ8,zB8 p,zB8 H];exact xgw rfl
  clear p H V;go_wp2_with (at_builtin;refine qAK rfl _ _ rfl (w.heap.size+1) _ (zHa M k) rfl (j.I ((zC _ _).alloc (xgf _) _)) wr.heap.size 1 s a l c z rfl (yG _ _ _) (W.ext (lx ((zC _ _).alloc (xgf _) _))) (by rw[zF8];omega) (by have:=d.lt;simp;omega) ?_;intro v' w' U i a8)
  have i:World.grownBy (wr.alloc (.cells #[.bool s,.slice a l c] tI)) w' (Value.ownBlock u3):=i;have O:BWq w w':=(f.alloc f.size _).grown i (by have:=f.size;simp;omega) (fun g Q=>by have:=j.own g Q;omega);have L:Blk w' w.heap.size 32 #[niq n,niq I,slq b n cap]:=
   (i.block _ (by have:=d.lt;simp;omega) (fun S=>by have:=j.own _ S.symm;omega)).trans (d.alloc _)
  go_roundw
  case rel=>exact⟨k+1,oM,by simp,by rw[hd.out];exact U,O,L⟩
  case measure=>exact meq
 obtain rfl:k=m:=oM;go_wp2;go_ret;exact⟨_,rfl,j.mono (Nat.le_succ _),f⟩
def zSw:Int->List Int->Bool
 |_,[]=>true
 |last,d::ds=>decide (0<=d) && decide (last∣d) && zSw d ds
def qBL(R C:Int)(M:List (List Int)):Bool:=decide (zBX R C M) && (zEx 0 M && zSw 1 (zHa M (min R.toNat C.toNat)))
abbrev tR:TypeId:=46
theorem Tryz.infoR:(Tryz.prog.info? tR).map (fun i=>(i.zero,i.size,i.bytes))=some (some (.slice none 0 0),1,24):=by kernel_rfl
abbrev zDp:=@Tryz.infoR
def zeroCells(n:Nat):Array Value:=madeCells (Value.agg #[.bool false,.slice none 0 0]).cells (n*2)
theorem mkI(m:Int)(n:Nat)(b:m=n)(h:n<=1099511627776)(W:World):
  (Instr.makeSlice 46 (niq m) (niq m)).run Tryz.prog W= .ok (slq W.heap.size n n) (W.alloc (.cells (zeroCells n) tI)):=by
 subst b;obtain⟨f,a,c,d,e⟩:=info_parts zEW;have:=zCn (P:=Tryz.prog) 46 tI f _ zCQ a c .i64 .i64 n n (xgf _) (by rw[e];omega) oM W;rw[this,d];rfl
theorem zH2(w:World)(n:Nat):jY (w.alloc (.cells (zeroCells n) tI)) w.heap.size (List.replicate n 0):=by
 refine⟨zeroCells n,heap_alloc_new w _,fun k z c=>?_⟩;have d:=(xge.1 c);obtain⟨b,a⟩:=d;rw[List.length_replicate]at b;rw[List.getElem_replicate]at a;subst a;refine⟨false,none,0,0,?_,?_,zFG _⟩
 .unfold zeroCells madeCells
  rw[Array.getElem?_eq_getElem (by simp;omega)];simp[Value.cells]
 unfold zeroCells madeCells;rw[Array.getElem?_eq_getElem (by simp;omega)];have:(k*2+1)%2=1:=oM;simp[Value.cells,this]
def zBV(C:Nat)(bs:List Nat):List Value:=bs.map fun b=>slq b C C
structure qH(w:World)(base:Nat)(A:Value)(C:Nat)(bs:List Nat)(M:List (List Int)):Prop where
 own:w.ownsRow base tR 1 A bs.length (zBV C bs)
 len:M.length=bs.length
 row:∀(k:Nat) (b:Nat) (r:List Int),bs[k]?=some b->M[k]?=some r->base<=b/\r.length=C/\jY w b r
 nodup:bs.Nodup
 cb:C<=1099511627776
theorem qH.I(h:qH w base A C bs M)(a:BWq w w'):qH w' base A C bs M:=
 ⟨h.own.kept (row:=none) ⟨a.os,a.tape,a.output,a.size,fun k i _=>a.block k i⟩ (by cases j:A.ownBlock<;>simp),h.len,fun k b r f g=>by
  obtain⟨c,d,e⟩:=h.row k b r f g;exact⟨c,d,e.I a⟩,h.nodup,h.cb⟩
theorem qH.keep(h:qH w base A C bs M)(e:∀k,base<=k->w'.heap[k]?=w.heap[k]?)(x:zBq w w'):qH w' base A C bs M:=by
 refine⟨⟨h.own.1,?_⟩,h.len,fun k b r f j=>by
  obtain⟨a,c,d⟩:=h.row k b r f j;exact⟨a,c,d.old (e _ a) x⟩,h.nodup,h.cb⟩
 rcases h.own.2 with f|⟨g,cap,i,a,c,d⟩
 exact .inl f;exact .inr ⟨g,cap,i,a,c,(e _ c).trans d.1,d.2⟩
theorem Blk.put3{r:Nat}{a b c:Value}(h:Blk w r T #[a,b,c])(x y z:Value):Blk (((w.setCell ⟨r,0,none⟩ x).setCell ⟨r,1,none⟩ y).setCell ⟨r,2,none⟩ z) r T #[x,y,z]:=by
 simpa using((h.set_ 0 x).set_ 1 y).set_ 2 z
theorem Blk.lext3{r:Nat}(h:Blk w r T cs)(a:T≠tU)(x y z:Value):zBq w (((w.setCell ⟨r,0,none⟩ x).setCell ⟨r,1,none⟩ y).setCell ⟨r,2,none⟩ z):=
 ((h.lext a 0 _).trans ((h.set_ 0 _).lext a 1 _)).trans (((h.set_ 0 _).set_ 1 _).lext a 2 _)
theorem zAm(w:World)(b k:Nat)(x y z:Value)(h:k≠b):(((w.setCell ⟨b,0,none⟩ x).setCell ⟨b,1,none⟩ y).setCell ⟨b,2,none⟩ z).heap[k]?=w.heap[k]?:=
 (qC _ b 2 k z h).trans (yL w b 0 1 k x y h)
theorem qH.mono(h:qH w base A C bs M)(j:base'<=base):qH w base' A C bs M:=by
 refine⟨⟨h.own.1,?_⟩,h.len,fun k b r d i=>by
  obtain⟨e,a,c⟩:=h.row k b r d i;exact⟨oM,a,c⟩,h.nodup,h.cb⟩
 rcases h.own.2 with d|⟨g,cap,f,e,a,c⟩
 exact .inl d;exact .inr ⟨g,cap,f,e,zD j a,c⟩
theorem qH.fits(h:qH w base A C bs M):zBW bs.length C M:=by
 refine⟨h.len,fun r c=>?_⟩;obtain⟨k,a,e⟩:=qZ c;have b:k<bs.length:=by have:=h.len;omega
 exact(h.row k bs[k] r (xga b) (by rw[xga a,e])).2.1
theorem qH.rows(h:qH w base A C bs M):zBg w A M:=by
 rcases h.own.2 with⟨rfl,m⟩|⟨g,cap,c,rfl,n,d,e,f,o,i⟩
 .have:M= []:=qL (by rw[h.len];exact m)
  subst this;exact zBg.nil w
 refine⟨some ⟨g,0,none⟩,bs.length,cap,rfl,h.len,e,f,fun _=>⟨g,c,rfl,d,fun k zs a=>?_⟩⟩;have q:=(xge.1 a).1;have b:k<bs.length:=by have:=h.len;omega
 obtain⟨p,j,l⟩:=h.row k bs[k] zs (xga b) a;refine⟨slq (bs[k]) C C,?_,some ⟨bs[k],0,none⟩,C,C,rfl,j,xgf _,by have:=h.cb;omega,fun _=>⟨_,rfl,l⟩⟩;have:(zBV C bs)[k]?=some (slq (bs[k]) C C):=by simp[zBV,b]
 rw[<-i,List.getElem?_take_of_lt oM]at this;simpa using this
def zZN(w:World)(base:Nat)(v:Value)(R C:Nat)(bs:List Nat)(M:List (List Int)):Prop:=bs.length=R/\∃A,v= .agg #[niq R,niq C,A]/\qH w base A C bs M
theorem zZN.mat(h:zZN w base v R C bs M):zAQ w v R C M/\zBW R C M:=by
 obtain⟨rfl,A,rfl,h⟩:=h;exact⟨⟨A,rfl,h.rows⟩,h.fits⟩
theorem zBW.valid(h:zBW R C M):zBX R C M:=⟨oM,oM,by rw[h.1],fun r a=>by rw[h.2 r a]⟩
def zDl(w:World)(R C:Nat)(M:List (List Int))(e:Ending)(w':World):Prop:=∃v bs,e= .returned v/\zZN w' w.heap.size v R C bs M/\BWq w w'
theorem Tryz.sizeM:(Tryz.prog.info? 32).map (·.size)=some 3:=by kernel_rfl
abbrev zFa:=@Tryz.sizeM
theorem zAD{fn:Func}{W:World}{Q:Ending->World->Prop}{r:Nat}{x y z:Value}{p:Tmp}(h:fn.results=#[.cell p 32])(hd:a.defers= [])
  (d:a.tmps.getD p undef=ptq r 0) (c:Blk W r 32 #[x,y,z]) (b:Q (.returned (.agg #[x,y,z])) W):bodyPost Tryz.prog fn Q .ret a W:=
 bodyPost_ret (results_cell_row h _ W r _ _ _ _ d c zDF rfl (by rw[zFa];rfl)) hd b
theorem zGw(h:w.ownsRow base tR 1 v n xs)(d:jY w b r):some b≠v.ownBlock:=by
 intro e;rcases h.2 with⟨rfl,-⟩|⟨g,cap,i,rfl,-,c,-⟩
 cases e;simp only[Value.ownBlock,Option.some.injEq]at e;subst e;obtain⟨cs,a,-⟩:=d;rw[c]at a;injection a with a
 injection a with _ f
 exact absurd f dE
theorem qBU{w:World}{ops:Array Oper}{rest:List Oper}{a:Act}{Q:Exit->Act->World->Prop}(L:o.guard=none)(s x:Operand)
  (R:o.op= .call {callee:=.builtin .append,args:=#[s,x],argTypes:=#[30,30]})
  (base:Nat) (v:Value) (C:Nat) (f:List Nat) (M:List (List Int)) (U:a.eval s=v) (d:qH w base v C f M) (b c i:Nat) (r:List Int) (m:a.eval x=slq b 1 c)
  (I:Blk w b tR #[slq i C C]) (S:jY w i r) (T:r.length=C) (P:base<=i) (K:∀g∈f,g≠i)
  (a0:f.length+1<=1099511627776) (J:base<=w.heap.size)
  (h:∀n w',qH w' base n C (f++ [i]) (M++ [r])->w.grownBy w' v.ownBlock->zBq w w'->wpList Tryz.prog ops Q rest (a.put o.dst n) w'):wpList Tryz.prog ops Q (o::rest) a w:=by
 obtain⟨Y,N,V,W,X⟩:=info_parts zDp;have E:=I.cell 0;refine wpList_append_own w L s x 30 R base tR Y _ 1 24 zA5 N V W X rfl oM v f.length _ U d.own ⟨b,0,none⟩ 1 c [slq i C C] m rfl ?_ ?_ (by simp[maxLen];omega) oM J ?_
 .intro j u p
  rw[zAg];match j with
  |0=>simp at p;subst p;exact E
  |j+1=>simp at p
 .intro u B
  simp at B;subst B;rfl
 intro n w' Z t _;have m:=zEf d.own dE t;have z:∀g q,jY w g q->jY w' g q:=fun g q e=>e.old (t.block g e.lt (zGw d.own e)) m
 refine h n w' ⟨?_,by simp[d.len],?_,?_,d.cb⟩ t m
 .have:zBV C (f++ [i])=zBV C f++ [slq i C C]:=by simp[zBV]
  rw[this];simpa using Z
 .intro k g q l e
  rcases zK k f.length with A|y
  .rw[List.getElem?_append_left A]at l
   rw[List.getElem?_append_left (by rw[d.len];exact A)]at e;obtain⟨F,G,H⟩:=d.row k g q l e;exact⟨F,G,z _ _ H⟩
  rw[List.getElem?_append_right y]at l;rw[List.getElem?_append_right (by rw[d.len];exact y),d.len]at e;have O:k-f.length=0:=by
   have:=(xge.1 l).1;simp at this;omega
  rw[O]at l e;simp at l e;subst l;subst e;exact⟨P,T,z _ _ S⟩
 rw[jG];refine⟨d.nodup,by simp,fun x m a1 D=>?_⟩;simp at D;subst D;exact K x m
def zDi(R C:Nat):List (List Int):=List.replicate R (List.replicate C 0)
theorem zFR(R C:Nat)(w:World)(U:R<=1000000)(T:C<=1000000):
  CPq 52 #[niq R,niq C] w (zDl w R C (zDi R C)):=by
 have o:=fun W=>mkI (C:Int) C rfl oM W
 go_enter Tryz.func52,Tryz.ntmps52;go_upto_block 0 with(fail)
 refine zF ?_;intro I v;obtain⟨t,a,q,Y⟩:=zAU v;go_wp2;go_loopw [5,6] (fun A l wr=>∃(k:Nat) (bs:List Nat),k<=R/\l=niq k/\qH wr (w.heap.size+1) A C bs (zDi k C)/\BWq w wr/\Blk wr w.heap.size 32 #[niq 0,niq 0,.slice none 0 0]) (fun _ l _=>R-(intOf l).toNat)
 case atStart=>
  refine⟨0,[],oM,rfl,⟨⟨by simp[zBV],.inr ⟨w.heap.size+1,0,#[],rfl,xgf _,q,xgf _,by simp[maxLen],rfl,rfl⟩⟩,rfl,fun k b r h=>by simp at h,by simp,oM⟩,t,a⟩
 obtain⟨k,bs,D,rfl,c,f,a⟩:=hrel;have x:bs.length=k:=by rw[<-c.len];simp[zDi]
 by_cases X:k<R
 .have o:=o wr
  have i:BWq wr ((wr.alloc (.cells (zeroCells C) tI)).alloc (.cells #[slq wr.heap.size C C] tR)):=((zC _ _).alloc (xgf _) _).alloc sI _;have y:Blk ((wr.alloc (.cells (zeroCells C) tI)).alloc (.cells #[slq wr.heap.size C C] tR)) (wr.heap.size+1) tR #[slq wr.heap.size C C]:=by
   simpa using Blk.new (wr.alloc (.cells (zeroCells C) tI)) tR #[slq wr.heap.size C C]
  have G:=(zH2 wr C).I ((zC (wr.alloc (.cells (zeroCells C) tI)).heap.size _).alloc (xgf _) (.cells #[slq wr.heap.size C C] tR));have z:∀g∈bs,g≠wr.heap.size:=by
   intro g d;obtain⟨j,n,e⟩:=qZ d;have:=(c.row j g _ (by rw[xga n,e]) (xga (by rw[c.len];exact n))).2.2.lt;omega
  have H:=f.size;have V:=a.lt;have E:=c.I i;have a0:=lx i;go_wp2_with (at_builtin;refine qBU rfl _ _ rfl (w.heap.size+1) u5 C bs (zDi k C) rfl E (wr.heap.size+1) 1 wr.heap.size (List.replicate C 0) rfl y G sI oM z oM (by simp;omega) ?_;intro v' w' F m Z)
  have p:∀g,u5.ownBlock=some g->w.heap.size+1<=g:=by
   intro g d;rcases c.own.2 with⟨rfl,-⟩|⟨Q,cap,P,rfl,S,-⟩
   cases d;simp only[Value.ownBlock,Option.some.injEq]at d;omega
  have u:BWq w w':=(nx f i).grown m (by simp;omega) (fun g d=>by have:=p g d;omega);have s:=(m.block _ (by simp;omega) (fun B=>by have:=p _ B.symm;omega)).trans (a.I i);go_roundw
  case rel=>
   refine⟨k+1,bs++ [wr.heap.size],oM,by simp,?_,u,s⟩;have:zDi (k+1) C=zDi k C++ [List.replicate C 0]:=by unfold zDi;rw[List.replicate_succ']
   rw[this];exact F
  case measure=>exact meq
 obtain rfl:k=R:=oM;have O:=a.three;obtain⟨ao,N,M,rfl,J,K,L,-⟩:=id c.rows;have H:=f.size;go_wp2;refine zAD rfl rfl rfl (a.put3 _ _ _) ⟨_,bs,rfl,⟨x,_,rfl,?_⟩,yB (yB (yB f (xgf _) 0 _) (xgf _) 1 _) (xgf _) 2 _⟩;exact(c.keep (fun k D=>zAm _ _ k _ _ _ oM) (a.lext3 dE _ _ _)).mono (Nat.le_succ _)
def genM(R C:Nat)(f:Nat->Nat->Int):List (List Int):=(List.range R).map fun i=>(List.range C).map (f i)
def ent(M:List (List Int))(i j:Nat):Int:=(M.getD i []).getD j 0
theorem jX{g:Nat->Nat->Int}(h:∀i,i<R->∀j,j<C->f i j=g i j):genM R C f=genM R C g:=by
 unfold genM;refine zA7 fun i a=>zA7 fun j b=>h i (yP.1 a) j (yP.1 b)
theorem zDS(R C:Nat)(f:Nat->Nat->Int)(a:i<R):(genM R C f)[i]?=some ((List.range C).map (f i)):=by
 simp[genM,a]
theorem yZ(a:i<R)(b:j<C):ent (genM R C f) i j=f i j:=by
 unfold ent;rw[zB8 (zDS R C f a)];simp[xgb,b]
theorem jJ(R C:Nat)(f:Nat->Nat->Int):zBW R C (genM R C f):=by
 refine⟨by simp[genM],fun r a=>?_⟩;unfold genM at a;obtain⟨i,-,rfl⟩:=List.mem_map.1 a;simp
theorem zFE{z:Int}(h1:M[i]?=some r)(h2:r[j]?=some z):ent M i j=z:=by
 unfold ent;rw[zB8 h1,zB8 h2]
theorem zGB(h:zBW R C M):M=genM R C (ent M):=by
 apply qX;rw[h.1];simp[genM];intro i b e;have g:i<R:=by rw[<-h.1];exact b
 have a:M[i]?=some M[i]:=xga b;have d:=h.2 _ (xgd a);apply qX;rw[d];simp[genM];intro j c f;have:=zFE a (xga c);simp[genM,this]
theorem zFX(R C:Nat):zDi R C=genM R C (fun _ _=>0):=by
 unfold zDi genM;apply qX;simp;intro i a b;apply qX;simp;intro j c d;simp
def zQf(M:List (List Int))(i j:Nat)(z:Int):List (List Int):=M.set i ((M.getD i []).set j z)
theorem zDx(z:Int)(m:i<R)(r:j<C):zQf (genM R C f) i j z=genM R C (fun g k=>if g=i/\k=j then z else f g k):=by
 unfold zQf;rw[zB8 (zDS R C f m)];apply qX;simp[genM];intro a n l;have q:a<R:=by simpa[genM]using l
 by_cases e:a=i
 .subst e
  rw[zBG];apply qX;simp[genM];intro b o p;by_cases c:b=j
  .subst c;simp[genM]
  have d:j≠b:=fun h=>c h.symm
  simp[genM,c,d]
 have d:i≠a:=fun h=>e h.symm
 rw[zBb d];simp[genM,e]
theorem qH.set(h:qH w base A C bs M)(m:bs[i]?=some b)(N:j<C)
  {s:Bool} {a:Option Addr} {l c:Nat} {z:Int} (hv:jE w (.agg #[.bool s,.slice a l c]) z):
  qH ((w.setCell ⟨b,j*2,none⟩ (.bool s)).setCell ⟨b,j*2+1,none⟩ (.slice a l c)) base A C bs (zQf M i j z)/\zBq w ((w.setCell ⟨b,j*2,none⟩ (.bool s)).setCell ⟨b,j*2+1,none⟩ (.slice a l c))/\base<=b:=by
 have L:=(xge.1 m).1;have q:i<M.length:=by rw[h.len];exact L
 obtain⟨v,x,y⟩:=h.row i b M[i] m (xga q);obtain⟨O,B⟩:=y.set (k:=j) (by rw[x];exact N) hv;refine⟨⟨⟨h.own.1,?_⟩,by simp[zQf,h.len],?_,h.nodup,h.cb⟩,B,v⟩
 .rcases h.own.2 with o|⟨g,cap,D,u,E,F,G⟩
  .exact .inl o
  refine .inr ⟨g,cap,D,u,E,?_,G⟩;have t:g≠b:=by
   have:=zGw h.own y;rw[u]at this;simp only[Value.ownBlock]at this;intro p;exact this (by rw[p])
  exact(yL w b _ _ g _ _ t).trans F
 intro k n r f d;by_cases e:k=i
 .subst e
  rw[m]at f;injection f with f
  subst f;unfold zQf at d;rw[List.getElem?_set_self q]at d;injection d with d
  subst d;rw[zB8 (xga q)];exact⟨v,by rw[List.length_set];exact x,O⟩
 unfold zQf at d;rw[List.getElem?_set_ne (qF e)]at d;obtain⟨H,I,J⟩:=h.row k n r f d;have P:=(xge.1 f).1;have t:n≠b:=by
  intro p;subst p;have o:=(xge.1 f).2;have K:=(xge.1 m).2;exact e ((jN h.nodup).1 (o.trans K.symm))
 exact⟨H,I,J.old (yL w b _ _ n _ _ t) B⟩
theorem qH.at_(h:qH w base (.slice ao n cap) C bs M)(a:i<bs.length):
  ∃g b,ao=some ⟨g,0,none⟩/\g<w.heap.size/\bs[i]?=some b/\b<w.heap.size/\w.cell? ⟨g,i,none⟩=some (slq b C C)/\n=bs.length:=by
 rcases h.own.2 with⟨e,u⟩|⟨g,o,d,e,q,c,r,s,t,f⟩
 omega;injection e with j k p
 subst j;have l:i<M.length:=by rw[h.len];exact a
 have m:=h.row i bs[i] M[i] (xga a) (xga l);refine⟨g,bs[i],rfl,(Array.getElem?_eq_some_iff.1 c).1,xga a,m.2.2.lt,?_,k⟩;rw[cell_of_row w g i d _ _ c];have:(zBV C bs)[i]?=some (slq (bs[i]) C C):=by simp[zBV,a]
 rw[<-f,List.getElem?_take_of_lt oM]at this;simpa using this
theorem qH.cellAt(h:qH w base A C bs M)(d:bs[i]?=some b)(k:j<C):
  ∃s a l c,w.cell? ⟨b,j*2,none⟩=some (.bool s)/\w.cell? ⟨b,j*2+1,none⟩=some (.slice a l c)/\w.frozen? ⟨b,j*2,none⟩=false/\w.frozen? ⟨b,j*2+1,none⟩=false/\jE w (.agg #[.bool s,.slice a l c]) (ent M i j):=by
 have g:=(xge.1 d).1;have e:i<M.length:=by rw[h.len];exact g
 obtain⟨o,m,n⟩:=h.row i b M[i] d (xga e);have f:j<M[i].length:=by rw[m];exact k
 have:=n.cell (xga f);rwa[zFE (xga e) (xga f)]
def zH9(f:Nat->Nat->Int)(i j:Nat):Nat->Nat->Int:=fun a b=>if a<i∨(a=i/\b<j)then f a b else 0
theorem zFW(R C:Nat)(f:Nat->Nat->Int):zDi R C=genM R C (zH9 f 0 0):=by
 rw[zFX];exact jX fun i _ j _=>by unfold zH9;rw[zA oM]
theorem zIB:genM R C (zH9 f i C)=genM R C (zH9 f (i+1) 0):=
 jX fun a _ b c=>by
  unfold zH9;by_cases h:a<i∨(a=i/\b<C)
  .rw[zB h,zB oM]
  rw[zA h,zA oM]
theorem zIA:genM R C (zH9 f R 0)=genM R C f:=
 jX fun a c b _=>by unfold zH9;rw[zB oM]
theorem zIC(d:i<R)(e:j<C):zQf (genM R C (zH9 f i j)) i j (f i j)=genM R C (zH9 f i (j+1)):=by
 rw[zDx _ d e];exact jX fun a _ b _=>by
  unfold zH9;by_cases h:a=i/\b=j
  .obtain⟨rfl,rfl⟩:=h
   rw[zB ⟨rfl,rfl⟩,zB oM]
  rw[zA h];by_cases c:a<i∨(a=i/\b<j)
  .rw[zB c,zB oM]
  rw[zA c,zA oM]
theorem qH.lts(h:qH w base A C bs M):∀(i b:Nat),bs[i]?=some b->b<w.heap.size:=by
 intro i b a;have d:=(xge.1 a).1;have c:i<M.length:=by rw[h.len];exact d
 exact(h.row i b M[i] a (xga c)).2.2.lt
theorem zKQ(v kv:Value)(R C:Nat)(M:List (List Int))(k:Int)(w:World)(h:zG3 w v R C M)(hF:zBW R C M)(I:jE w kv k)(hR:R<=1000000)(hC:C<=1000000)(O:∀r∈M,∀z∈r,Sm z)(U:Sm k):
  CPq 40 #[v,kv] w (zDl w R C (genM R C (fun i j=>ent M i j*k))):=by
 obtain⟨A,rfl,h⟩:=h;obtain⟨ao,n,cap,rfl,E,e3,e4,-⟩:=id h;have HX:=xgw E;have HS:=xgv O;have HK:=xgv U;have HF:=xgv hF;obtain rfl:n=R:=by rw[<-E,hF.1]
 have a5:=I;obtain⟨kn,ka,kl,kc,kx,rfl,V⟩:=id I;have b0:=xgw V;clear E O U hF V;obtain⟨f,G⟩:∃f:Nat->Nat->Int,(fun i j=>ent M i j*k)=f:=⟨_,rfl⟩;rw[G];have T:∀i j,f i j=ent M i j*k:=fun i j=>by rw[<-G]
 clear G;have a1:=xgv T;clear T;go_enter Tryz.func40,Tryz.ntmps40;go_upto_region 1 with(fail)
 refine zF ?_;intro D P;obtain⟨N,d,l,e,c2⟩:=zBc P;have u:=d.three;go_wp2_with fail
 refine(zFR n C D hR hC).mono ?_;rintro b5 w2 ⟨d2,bs,rfl,⟨a3,A2,rfl,c⟩,t⟩;obtain⟨B,on,y,rfl,-,-,-,-⟩:=id c.rows;have a7:=c.lts;go_upto_region 2 with(fail)
 refine zF ?_;intro W3 Q;obtain⟨s,m,c3⟩:=qJ Q;have d:=(d.I t).I s;have l:=(l.I t).I s;have e:=(e.I t).I s;have c:=c.I s;rw[zFW n C f]at c;have a2:=nx (nx N t) s;have q2:=t.size;clear Q P u;go_wp2;go_loopw [6] (fun K wr=>∃i:Nat,i<=n/\K=niq i/\BWq w wr/\Blk wr w.heap.size 32 #[niq n,niq C,.slice ao n cap]/\Blk wr (w.heap.size+1) 43 #[.bool kn,.slice ka kl kc]∧
  Blk wr (w.heap.size+1+1) 32 #[niq 0,niq 0,.slice none 0 0]/\Blk wr w2.heap.size 32 #[niq n,niq C,.slice B on y]/\qH wr D.heap.size (.slice B on y) C bs (genM n C (zH9 f i 0))) (fun K _=>n-(intOf K).toNat)
 case atStart=>exact⟨0,oM,rfl,a2,d,l,e,m,c⟩
 obtain⟨i,hi,rfl,p,d,l,e,m,c⟩:=hrel;have u:=d.three;by_cases W:i<n
 .go_wp2
  clear u;go_loopw [7] (fun L wr=>∃j:Nat,j<=C/\L=niq j/\BWq w wr/\Blk wr w.heap.size 32 #[niq n,niq C,.slice ao n cap]/\Blk wr (w.heap.size+1) 43 #[.bool kn,.slice ka kl kc]∧
   Blk wr (w.heap.size+1+1) 32 #[niq 0,niq 0,.slice none 0 0]/\Blk wr w2.heap.size 32 #[niq n,niq C,.slice B on y]/\qH wr D.heap.size (.slice B on y) C bs (genM n C (zH9 f i j))) (fun L _=>C-(intOf L).toNat)
  case atStart=>exact⟨0,oM,rfl,p,d,l,e,m,c⟩
  obtain⟨j,hj,rfl,p,d,l,e,m,c⟩:=hrel;have u:=d.three;by_cases H:j<C
  .obtain⟨b,o,ra,rn,rc,zs,rfl,b7,x,p1,hv⟩:=(h.I p).row (k:=i) (by rw[HX.out];exact W)
   have a8:=HF.out.2 zs (xgd x);have c4:=hv.len;obtain rfl:rn=C:=oM;obtain⟨b',z,d0,a,c5,b4,rfl,b6,J,q1,c9,a9⟩:=hv.cell (k:=j) oM;have a4:=xgw (zFE x J);have SZ:jI (Sm z):=⟨HS.out _ (xgd x) _ (xgd J)⟩;clear x J a8;obtain⟨g,bo,rfl,hg,F,b8,o1,X⟩:=c.at_ (i:=i) oM;have d1:=l.two;have f1:=m.three;have c0:i<on:=oM;have b2:=xgw X;clear X;have c6:=d.lt;have c7:=l.lt;have c8:=m.lt;have a6:=a5.ext (lx p);go_upto_region 8 with(fail)
   refine yA 17 [pcI 15 (z*k)] ?_;refine sRd ?_;refine sRc (fun wS hI Gk hG=>by go_simp;exact ck hG (zC8 _ _ z k _ (a9.ext hI.lext) (a6.ext hI.lext) SZ.out HK.out)) (fun d3 _=>?_);refine sRd ?_;refine sRe ?_;intro w9 q S;obtain⟨pn,pa,pl,pc,px,rfl,Z⟩:=id S;have b3:=xgw Z;clear Z;have Y:=c.I q;obtain⟨sn,sa,sl,sc,z1,z2,z3,z4,-⟩:=Y.cellAt F H;have b9:=a7 i bo F;have a0:=Y.set F H S;go_wp2;go_roundw
   case rel=>
    have hq:z*k=f i j:=by rw[a1.out,a4.out]
    rw[hq,zIC W H]at a0;exact⟨j+1,oM,by simp,yB (yB (nx p q) oM _ _) oM _ _,(yL _ _ _ _ _ _ _ oM).trans (d.I q),(yL _ _ _ _ _ _ _ oM).trans (l.I q),(yL _ _ _ _ _ _ _ oM).trans (e.I q),(yL _ _ _ _ _ _ _ oM).trans (m.I q),a0.1⟩
   case measure=>exact meq
  obtain rfl:j=C:=oM;rw[zIB]at c;go_wp2;go_roundw
  case rel=>exact⟨i+1,oM,by simp,p,d,l,e,m,c⟩
  case measure=>exact meq
 obtain rfl:i=n:=oM;rw[zIA]at c;have f1:=m.three;have r1:=e.three;have q1:=N.size;go_wp2;refine zAD rfl rfl rfl (e.put3 _ _ _) ⟨_,bs,rfl,⟨a3,_,rfl,?_⟩,yB (yB (yB p oM 0 _) oM 1 _) oM 2 _⟩;exact(c.keep (fun k I=>zAm _ _ k _ _ _ oM) (e.lext3 dE _ _ _)).mono q1
theorem zPX(v a:Value)(R C:Nat)(M:List (List Int))(k:Int)(w:World)(h:zAQ w v R C M)(hF:zBW R C M)(e:jE w a k)(c:R<=1000000)(b:C<=1000000)(d:∀r∈M,∀z∈r,Sm z)(f:Sm k):
  CPq 40 #[v,a] w (zDl w R C (genM R C (fun i j=>ent M i j*k))):=zKQ v a R C M k w h.off hF e c b d f
theorem zNt(v:Value)(R C:Nat)(M:List (List Int))(w:World)(h:zG3 w v R C M)(hF:zBW R C M)(H:R<=1000000)(E:C<=1000000)(f:∀r∈M,∀z∈r,Sm z):
  CPq 147 #[v] w (zDl w R C M):=by
 have B:=h;obtain⟨A,rfl,h⟩:=h;obtain⟨ao,n,cap,rfl,y,P,Q,-⟩:=id h;have s:=xgv f;have q:=xgv hF;have t:jI (Sm 1):=⟨(zFC (z:=1) dE).sm⟩;have G:genM R C (fun i j=>ent M i j*1)=M:=by
  have:(fun i j=>ent M i j*1)=ent M:=by funext i j;rw[zAl]
  rw[this,<-zGB hF]
 clear f hF y;go_enter Tryz.func147,Tryz.ntmps147;go_upto_region 1 with(fail)
 refine zF ?_;intro O I;obtain⟨D,u,a,T⟩:=zAU I;have x:=u.three;refine yA 2 [pcI 1 (1)] ?_;refine sRd ?_;refine sRc (fun wS hI N F=>by go_simp;exact ck F (zBa 1 _ oM oM)) (fun a1 _=>?_);refine sRe ?_;intro p c J;have a:=a.I c;have b:=nx D c;clear x;go_wp2_with fail
 refine(zKQ _ _ R C M 1 p (B.I b) q.out J H E s.out t.out).mono ?_;rintro e w2 ⟨a0,bs,rfl,⟨K,L,rfl,d⟩,g⟩;rw[G]at d;obtain⟨V,on,U,rfl,-,-,-,-⟩:=id d.rows;have a:=a.I g;have b:=nx b g;obtain⟨l,m,o,Y,Z,r6⟩:=a.three;have W:=c.size;have X:w.heap.size+1<p.heap.size:=oM;clear l m o;obtain⟨l,m,o,-,-,-⟩:=a.three;go_wp2;refine zAD rfl rfl rfl (a.put3 _ _ _) ⟨_,bs,rfl,⟨K,_,rfl,?_⟩,yB (yB (yB b oM 0 _) oM 1 _) oM 2 _⟩;exact(d.keep (fun k S=>zAm _ _ k _ _ _ oM) (a.lext3 dE _ _ _)).mono oM
def idf(i j:Nat):Int:=if i=j then 1 else 0
def zON(k:Nat)(i j:Nat):Int:=if i=j/\i<k then 1 else 0
theorem zGx(n:Nat)(w:World)(B:n<=1000000):CPq 49 #[niq n] w (zDl w n n (genM n n idf)):=by
 go_enter Tryz.func49,Tryz.ntmps49;go_upto_region 1 with(fail)
 refine zF ?_;intro u x;obtain⟨v,d,a1⟩:=qJ x;go_wp2_with fail
 refine(zFR n n u B B).mono ?_;rintro e Q ⟨a4,bs,rfl,⟨N,R,rfl,c⟩,q⟩;obtain⟨I,on,H,rfl,-,-,-,-⟩:=id c.rows;have O:=c.lts;go_upto_region 2 with(fail)
 refine zF ?_;intro V y;obtain⟨p,f,a2⟩:=qJ y;have d:=(d.I q).I p;have c:=c.I p;have G:zDi n n=genM n n (zON 0):=by rw[zFX];exact jX fun i _ j _=>by unfold zON;rw[zA oM]
 rw[G]at c;have K:=nx (nx v q) p;have P:=v.size;have q2:=q.size;clear y x G;go_wp2;go_loopw [4] (fun t wr=>∃i:Nat,i<=n/\t=niq i/\BWq w wr/\Blk wr w.heap.size 32 #[niq 0,niq 0,.slice none 0 0]/\Blk wr Q.heap.size 32 #[niq n,niq n,.slice I on H]/\qH wr u.heap.size (.slice I on H) n bs (genM n n (zON i))) (fun t _=>n-(intOf t).toNat)
 case atStart=>exact⟨0,oM,rfl,K,d,f,c⟩
 obtain⟨i,hi,rfl,A,d,f,c⟩:=hrel;have W:=f.three;by_cases o:i<n
 .obtain⟨g,J,rfl,Z,r,X,o1,C⟩:=c.at_ (i:=i) oM
  have a0:i<on:=oM;have T:=xgw C;clear C;have a3:=f.lt;go_upto_region 5 with(fail)
  refine yA 8 [pcI 6 (1)] ?_;refine sRd ?_;refine sRc (fun wS hI S L=>by go_simp;exact ck L (zBa 1 _ oM oM)) (fun a5 _=>?_);refine sRd ?_;refine sRe ?_;intro w9 m z;obtain⟨pn,pa,pl,pc,px,rfl,E⟩:=id z;have U:=xgw E;clear E;have D:=c.I m;obtain⟨sn,sa,sl,sc,z1,z2,z3,z4,-⟩:=D.cellAt r o;have Y:=O i J r;have F:=D.set r o z;go_wp2;go_roundw
  case rel=>
   have s:zQf (genM n n (zON i)) i i 1=genM n n (zON (i+1)):=by
    rw[zDx _ o o];exact jX fun a _ b _=>by
     unfold zON;by_cases h:a=i/\b=i
     .rw[zB h,zB oM]
     rw[zA h];by_cases l:a=b/\a<i
     .rw[zB l,zB oM]
     rw[zA l,zA oM]
   rw[s]at F;exact⟨i+1,oM,by simp,yB (yB (nx A m) oM _ _) oM _ _,(yL _ _ _ _ _ _ _ oM).trans (d.I m),(yL _ _ _ _ _ _ _ oM).trans (f.I m),F.1⟩
  case measure=>exact meq
 obtain rfl:i=n:=oM;have s:genM i i (zON i)=genM i i idf:=jX fun a M b _=>by
  unfold zON idf;by_cases h:a=b
  .rw[zB ⟨h,M⟩,zB h]
  rw[zA (fun l=>h l.1),zA h]
 rw[s]at c;have r1:=d.three;go_wp2;refine zAD rfl rfl rfl (d.put3 _ _ _) ⟨_,bs,rfl,⟨N,_,rfl,?_⟩,yB (yB (yB A oM 0 _) oM 1 _) oM 2 _⟩;exact(c.keep (fun k hk=>zAm _ _ k _ _ _ oM) (d.lext3 dE _ _ _)).mono P
def zUw(f:Nat->Int):Nat->Int
 |0=>0
 |k+1=>zUw f k+f k
def zHU(A B:List (List Int))(m i j:Nat):Int:=zUw (fun t=>ent A i t*ent B t j) m
def zGh(A B:List (List Int))(R m C:Nat):Prop:=
 ∀i,i<R->∀j,j<C->∀k,k<m->Sm (ent A i k)/\Sm (ent B k j)/\Sm (ent A i k*ent B k j)/\Sm (zHU A B k i j)
def zVR(f:Nat->Nat->Int)(i j:Nat)(x:Int):Nat->Nat->Int:=fun a b=>if a=i/\b=j then x else zH9 f i j a b
theorem zSU:genM R C (zH9 f i j)=genM R C (zVR f i j 0):=
 jX fun a _ b _=>by
  unfold zVR;by_cases h:a=i/\b=j
  .obtain⟨rfl,rfl⟩:=h
   rw[zB ⟨rfl,rfl⟩];unfold zH9;rw[zA oM]
  rw[zA h]
theorem zW1{y:Int}(c:i<R)(d:j<C):zQf (genM R C (zVR f i j x)) i j y=genM R C (zVR f i j y):=by
 rw[zDx _ c d];exact jX fun a _ b _=>by
  unfold zVR;by_cases h:a=i/\b=j
  .rw[zB h,zB h]
  rw[zA h,zA h,zA h]
theorem zW0:genM R C (zVR f i j (f i j))=genM R C (zH9 f i (j+1)):=
 jX fun a _ b _=>by
  unfold zVR;by_cases h:a=i/\b=j
  .obtain⟨rfl,rfl⟩:=h
   rw[zB ⟨rfl,rfl⟩];unfold zH9;rw[zB oM]
  rw[zA h];unfold zH9;by_cases c:a<i∨(a=i/\b<j)
  .rw[zB c,zB oM]
  rw[zA c,zA oM]
theorem zVC:zVR f i j x i j=x:=by unfold zVR;rw[zB ⟨rfl,rfl⟩]
theorem zKW{r:Nat}{v:Array Value}(b:Blk W r 32 v)(a:v.size=3):(loadVar 32 ⟨r,0,none⟩).run Tryz.prog W= .ok (.agg v) W:=
 run_loadVar_row W r _ _ v _ _ b zDF rfl (by rw[zFa,a])
theorem zDh{fn:Func}{p u:Tmp}(h:fn.results=#[.cell p 32,.tmp u])(tmps:Array Value){W:World}{r:Nat}{v:Array Value}
  (c:tmps.getD p undef=ptq r 0) (b:Blk W r 32 v) (a:v.size=3):
  (results fn tmps).run Tryz.prog W= .ok (.tuple #[.agg v,tmps.getD u undef]) W:=by
 have d:tmps[p]?.getD undef=ptq r 0:=by simpa using c
 simp[results,h,d,asAddr,zKW b a]
theorem zUU(v1 v2:Value)(R m C:Nat)(o p:List (List Int))(w:World)(h1:zAQ w v1 R m o)(h2:zAQ w v2 m C p)(T:zBW R m o)(U:zBW m C p)(hR:R<=1000000)(hm:m<=1000000)(hC:C<=1000000)(hS:zGh o p R m C):
  CPq 95 #[v1,v2] w fun e w'=>∃v bs,e= .returned (.tuple #[v,niq 0])/\zZN w' w.heap.size v R C bs (genM R C (zHU o p m))/\BWq w w':=by
 obtain⟨A1,rfl,h1⟩:=h1;obtain⟨A2,rfl,h2⟩:=h2;obtain⟨ao,n,cap,rfl,Q,e3,e4,-⟩:=id h1;obtain⟨P,q,O,rfl,S,g3,g4,-⟩:=id h2;have HX:=xgw Q;have HY:=xgw S;have HS:=xgv hS;have b6:=xgv T;have b7:=xgv U;obtain rfl:n=R:=by rw[<-Q,T.1]
 obtain rfl:q=m:=by rw[<-S,U.1]
 clear Q S hS T U;obtain⟨f,W⟩:∃f:Nat->Nat->Int,zHU o p q=f:=⟨_,rfl⟩;rw[W];have b8:jI (∀i j,f i j=zHU o p q i j):=⟨fun i j=>by rw[<-W]⟩;clear W;go_enter Tryz.func95,Tryz.ntmps95;go_upto_region 1 with(fail)
 refine zF ?_;intro E a1;obtain⟨a0,d,h,l,e9⟩:=zBc a1;have F:=d.three;obtain⟨G,H,I,J,K,L⟩:=h.three;go_wp2_with fail
 refine(zFR n C E hR hC).mono ?_;rintro e w2 ⟨g1,bs,rfl,⟨c2,A3,rfl,c⟩,B⟩;obtain⟨z,on,y,rfl,-,-,-,-⟩:=id c.rows;have c5:=c.lts;go_upto_region 4 with(fail)
 refine zF ?_;intro W3 a2;obtain⟨A,r,f0⟩:=qJ a2;have d:=(d.I B).I A;have h:=(h.I B).I A;have l:=(l.I B).I A;have c:=c.I A;rw[zFW n C f]at c;have c0:=nx (nx a0 B) A;have q2:=B.size;clear a2 a1 F G H I J K L;go_wp2;go_loopw [7] (fun Z wr=>∃i:Nat,i<=n/\Z=niq i/\BWq w wr/\Blk wr w.heap.size 32 #[niq n,niq q,.slice ao n cap]/\Blk wr (w.heap.size+1) 32 #[niq q,niq C,.slice P q O]∧
  Blk wr (w.heap.size+1+1) 32 #[niq 0,niq 0,.slice none 0 0]/\Blk wr w2.heap.size 32 #[niq n,niq C,.slice z on y]/\qH wr E.heap.size (.slice z on y) C bs (genM n C (zH9 f i 0))) (fun Z _=>n-(intOf Z).toNat)
 case atStart=>exact⟨0,oM,rfl,c0,d,h,l,r,c⟩
 obtain⟨i,hi,rfl,s,d,h,l,r,c⟩:=hrel;have F:=d.three;by_cases N:i<n
 .go_wp2
  clear F;go_loopw [8] (fun jv wr=>∃j:Nat,j<=C/\jv=niq j/\BWq w wr/\Blk wr w.heap.size 32 #[niq n,niq q,.slice ao n cap]/\Blk wr (w.heap.size+1) 32 #[niq q,niq C,.slice P q O]∧
   Blk wr (w.heap.size+1+1) 32 #[niq 0,niq 0,.slice none 0 0]/\Blk wr w2.heap.size 32 #[niq n,niq C,.slice z on y]/\qH wr E.heap.size (.slice z on y) C bs (genM n C (zH9 f i j))) (fun jv _=>C-(intOf jv).toNat)
  case atStart=>exact⟨0,oM,rfl,s,d,h,l,r,c⟩
  obtain⟨j,hj,rfl,s,d,h,l,r,c⟩:=hrel;obtain⟨G,H,I,J,K,L⟩:=h.three;by_cases u:j<C
  .go_wp2
   clear G H I J K L;rw[zSU]at c;go_loopw [9] (fun kv wr=>∃k:Nat,k<=q/\kv=niq k/\BWq w wr/\Blk wr w.heap.size 32 #[niq n,niq q,.slice ao n cap]/\Blk wr (w.heap.size+1) 32 #[niq q,niq C,.slice P q O]∧
    Blk wr (w.heap.size+1+1) 32 #[niq 0,niq 0,.slice none 0 0]/\Blk wr w2.heap.size 32 #[niq n,niq C,.slice z on y]/\qH wr E.heap.size (.slice z on y) C bs (genM n C (zVR f i j (zHU o p k i j)))) (fun kv _=>q-(intOf kv).toNat)
   case atStart=>exact⟨0,oM,rfl,s,d,h,l,r,c⟩
   obtain⟨k,hk,rfl,s,d,h,l,r,c⟩:=hrel;have F:=d.three;by_cases a5:k<q
   .obtain⟨G,H,I,J,K,L⟩:=h.three
    obtain⟨b,ra,rn,rc,zs,rfl,e0,Y,p1,hv⟩:=(h1.I s).row (k:=i) (by rw[HX.out];exact N);have c9:=b6.out.2 zs (xgd Y);have c6:=hv.len;obtain⟨b',g8,f9,a,f4,d8,rfl,d9,b4,q1,f8,b5⟩:=hv.cell (k:=k) oM;have e8:k<rn:=oM;obtain⟨g7,ya,yn,yc,ys,rfl,f3,X,y1,b3⟩:=(h2.I s).row (k:=k) (by rw[HY.out];exact a5);have c7:=b7.out.2 ys (xgd X);have c8:=b3.len;obtain⟨y',x,xs,xa,xl,xc,rfl,f2,b2,x1,x2,b0⟩:=b3.cell (k:=j) oM;have e7:j<yn:=oM;have c3:=xgw (zFE Y b4);have c4:=xgw (zFE X b2);have D:=xgv (HS.out i N j u k a5);clear Y b4 c9 X b2 c7 c6 c8;obtain⟨g,b9,rfl,hg,M,e1,o1,a6⟩:=c.at_ (i:=i) oM;obtain⟨us,ua,ul,uc,u1,u2,u3,u4,uv⟩:=c.cellAt M u;rw[yZ N u,zVC]at uv;have f1:=r.three;have e6:i<on:=oM;have d0:=xgw a6;clear a6;have f5:=d.lt;have f6:=h.lt;have f7:=r.lt;rw[<-c3.out]at b5;rw[<-c4.out]at b0;go_upto_region 13 with(fail)
    refine yA 33 [pcI 30 (ent o i k*ent p k j),pcD 31 [30] (fun w v=>jE w v (zHU o p k i j+ent o i k*ent p k j))] ?_;refine sRd ?_;refine sRc (fun wS hI Gk V=>by go_simp;exact ck V (zC8 _ _ (ent o i k) (ent p k j) _ (b5.ext hI.lext) (b0.ext hI.lext) D.out.1 D.out.2.1)) (fun g5 _=>?_);refine sRc (fun wS hI a3 Gk V=>by go_simp;exact ck V (zFQ _ _ (zHU o p k i j) (ent o i k*ent p k j) _ (uv.ext hI.lext) a3 D.out.2.2.2 D.out.2.2.1)) (fun g6 _=>?_);refine sRd ?_;refine sRe ?_;intro w9 t a3 a4;obtain⟨pn,pa,pl,pc,px,rfl,a8⟩:=id a4;have d7:=xgw a8;clear a8;have a7:=c.I t;obtain⟨sn,sa,sl,sc,z1,z2,z3,z4,-⟩:=a7.cellAt M u;have e5:=c5 i b9 M;have a9:=a7.set M u a4;go_wp2;go_roundw
    case rel=>
     rw[zW1 N u]at a9;exact⟨k+1,oM,by simp,yB (yB (nx s t) oM _ _) oM _ _,(yL _ _ _ _ _ _ _ oM).trans (d.I t),(yL _ _ _ _ _ _ _ oM).trans (h.I t),(yL _ _ _ _ _ _ _ oM).trans (l.I t),(yL _ _ _ _ _ _ _ oM).trans (r.I t),a9.1⟩
    case measure=>exact meq
   obtain rfl:k=q:=oM;rw[<-b8.out,zW0]at c;go_wp2;go_roundw
   case rel=>exact⟨j+1,oM,by simp,s,d,h,l,r,c⟩
   case measure=>exact meq
  obtain rfl:j=C:=oM;rw[zIB]at c;go_wp2;go_roundw
  case rel=>exact⟨i+1,oM,by simp,s,d,h,l,r,c⟩
  case measure=>exact meq
 obtain rfl:i=n:=oM;rw[zIA]at c;have f1:=r.three;have r1:=l.three;have q1:=a0.size;go_wp2;refine bodyPost_ret (zDh rfl _ rfl (l.put3 _ _ _) rfl) rfl ⟨_,bs,rfl,⟨c2,_,rfl,?_⟩,yB (yB (yB s oM 0 _) oM 1 _) oM 2 _⟩;exact(c.keep (fun k hk=>zAm _ _ k _ _ _ oM) (l.lext3 dE _ _ _)).mono q1
theorem zMi(r s:Value)(R m C:Nat)(a b:List (List Int))(w:World)(h1:zAQ w r R m a)(h2:zAQ w s m C b)(h:zBW R m a)(i:zBW m C b)(I:R<=1000000)(K:m<=1000000)(H:C<=1000000)(j:zGh a b R m C):
  CPq 50 #[r,s] w (zDl w R C (genM R C (zHU a b m))):=by
 have E:=h1;have F:=h2;obtain⟨M,rfl,h1⟩:=h1;obtain⟨N,rfl,h2⟩:=h2;obtain⟨ao,n,cap,rfl,-⟩:=id h1;obtain⟨S,q,Q,rfl,-⟩:=id h2;have v:=xgv j;have t:=xgv h;have u:=xgv i;clear j h i;go_enter Tryz.func50,Tryz.ntmps50;go_upto_region 1 with(fail)
 refine zF ?_;intro y l;obtain⟨d,z,A,c,V⟩:=zBc l;have B:=z.three;have D:=A.three;go_wp2_with fail
 refine(zUU _ _ R m C a b y (E.I d) (F.I d) t.out u.out I K H v.out).mono ?_;rintro e w2 ⟨a0,bs,rfl,⟨J,O,rfl,f⟩,p⟩;obtain⟨Y,on,X,rfl,-,-,-,-⟩:=id f.rows;go_upto_region 2 with(fail)
 refine zF ?_;intro P o;obtain⟨g,x,W⟩:=qJ o;have c:=(c.I p).I g;have f:=f.I g;have G:=nx (nx d p) g;have L:=d.size;clear o l B D;have T:=x.three;have Z:=c.three;go_wp2;refine zAD rfl rfl rfl (c.put3 _ _ _) ⟨_,bs,rfl,⟨J,_,rfl,?_⟩,yB (yB (yB G oM 0 _) oM 1 _) oM 2 _⟩;exact(f.keep (fun k U=>zAm _ _ k _ _ _ oM) (c.lext3 dE _ _ _)).mono L

def qBj(n:Nat)(R1 C1 R2 C2:Int)(M1 M2:List (List Int)):Bool:=
 decide (R1=n/\C1=n/\zBX R1 C1 M1) && (decide (R2=n/\C2=n/\zBX R2 C2 M2) && decide (genM n n (zHU M1 M2 n)=genM n n idf))
def zCL:Nat->List Int->Int
 |_,[]=>-1
 |k,z::zs=>if z≠0 then(k:Int)else zCL (k+1) zs
theorem zFi(v:Value)(zs:List Int)(w:World)(h:zBy w v zs):
  CPq 199 #[v] w fun e w'=>e= .returned (niq (zCL 0 zs))/\BWq w w':=by
 obtain⟨ao,n,cap,rfl,o,J,K,C⟩:=id h;have j:=xgw o;clear o C;go_enter Tryz.func199,Tryz.ntmps199;go_wp2;go_loopw [7] (fun i wr=>∃k:Nat,k<=n/\i=niq k/\BWq w wr/\Hid (zCL 0 zs=zCL k (zs.drop k))) (fun i _=>n-(intOf i).toNat)
 case atStart=>exact⟨0,oM,rfl,zC _ _,by rw[xgk];exact xgw rfl⟩
 obtain⟨k,M,rfl,f,g⟩:=hrel;by_cases G:k<n
 .obtain⟨b,z,s,a,l,c,rfl,L,t,A,B,H⟩:=(h.I f).cell (k:=k) (by rw[j.out];exact G)
  have m:=xgw t;clear t;go_upto_region 4 with(fail)
  refine zF ?_;intro y q;obtain⟨p,x,N⟩:=qJ q;have I:=x.two;clear A B q;go_wp2_with fail
  refine(zAw _ z y (H.ext (lx p)).J).mono ?_;rintro e O ⟨rfl,D⟩;have r:=nx (nx f p) D;by_cases d:z=0
  .rw[zBL d]
   go_wp2;go_roundw
   case rel=>
    refine⟨k+1,oM,by simp,r,xgw ?_⟩;rw[g.out,zDq m.out];conv=>lhs;unfold zCL
    rw[zA (by simp[d])]
   case measure=>exact meq
  have E:=zCm d;obtain⟨u,F⟩:∃u,zAv z 0=u:=⟨_,rfl⟩;rw[F]at E ⊢
  go_wp2;go_ret;refine⟨?_,r⟩;rw[g.out,zDq m.out];conv=>rhs;unfold zCL
  rw[zB d];rfl
 obtain rfl:k=n:=oM;go_wp2;go_ret;refine⟨?_,f⟩;rw[g.out,qP (zBT j.out)];rfl
theorem zIt(o p:Value)(c b:Int)(w:World)(h1:jE w o c)(h2:jE w p b)(m:Sm c)(n:Sm b)(A:b≠0):
  CPq 188 #[o,p] w (zDJ w (c/b)):=by
 obtain⟨P,H,N,J,xs,rfl,B⟩:=id h1;obtain⟨Q,I,O,K,ys,rfl,C⟩:=id h2;have q:=xgv m;have r:=xgv n;clear m n B C;go_enter Tryz.func188,Tryz.ntmps188;go_upto_region 1 with(fail)
 refine zF ?_;intro t x;obtain⟨d,u,v,a,L⟩:=zBc x;have g:=u.two;have h:=v.two;go_wp2_with fail
 refine(zD6 _ _ c b t (h1.ext (lx d)).J (h2.ext (lx d)).J q.out r.out A).mono ?_;rintro e w2 ⟨R,X,rfl,j,z,i⟩;obtain⟨V,S,U,T,W,rfl,k⟩:=id j;obtain⟨rn,Y,rl,Z,rx,rfl,l⟩:=id z;have D:=xgw k;have E:=xgw l;clear k l g h;go_upto_region 2 with(fail)
 refine zF ?_;intro G y;obtain⟨f,s,F,M⟩:=zAU y;have a:=(a.I i).I f;have g:=s.two;have h:=a.two;go_wp2;refine jL rfl rfl rfl (a.put2 _ _) ?_ (yB (yB (nx (nx d i) f) oM 0 _) oM 1 _);exact(j.ext (lx f)).ext (a.lext2 dE _ _)
structure zB0(S:List Nat)(w w':World):Prop where
 bel:Below 0 w w'
 lext:zBq w w'
 old:∀k,k<w.heap.size->k ∉ S->w'.heap[k]?=w.heap[k]?
theorem zB0.refl(S:List Nat)(w:World):zB0 S w w:=⟨zC _ _,zBq.refl _,fun _ _ _=>rfl⟩
theorem zB0.of(S:List Nat)(h:BWq w w'):zB0 S w w':=⟨h.mono (zH _),lx h,fun k a _=>h.block k a⟩
theorem zB0.trans{a b c:World}(h:zB0 S a b)(k:zB0 S b c):zB0 S a c:=
 ⟨h.bel.trans k.bel,h.lext.trans k.lext,fun i d e=>(k.old i (zM d h.bel.size) e).trans (h.old i d e)⟩
theorem zB0.mono{a:List Nat}(h:zB0 S w w')(e:∀k,k∈S->k∈a):zB0 a w w':=⟨h.bel,h.lext,fun k c d=>h.old k c (fun b=>d (e k b))⟩
theorem jY.only(h:jY w b zs)(k:zB0 S w w')(a:b ∉ S):jY w' b zs:=h.old (k.old b h.lt a) k.lext
theorem jY.vec(h:jY w b zs)(c:zs.length=n)(hc:n<=cap)(a:cap<=9223372036854775807):zBy w (slq b n cap) zs:=
 ⟨_,_,_,rfl,c,hc,a,fun _=>⟨b,rfl,h⟩⟩
def yV(n:Nat)(f:Nat->Int):List Int:=(List.range n).map f
theorem qN(n:Nat)(f:Nat->Int):(yV n f).length=n:=by simp[yV]
theorem yO{f:Nat->Int}(h:j<n):(yV n f)[j]?=some (f j):=by simp[yV,h]
theorem zEF{f:Nat->Int}(z:Int):(yV n f).set j z=yV n (fun t=>if t=j then z else f t):=by
 apply qX;simp[yV];intro a b c;by_cases e:a=j
 .subst e;simp[yV]
 have:j≠a:=fun h=>e h.symm
 simp[yV,this,e]
theorem yH{f g:Nat->Int}(h:∀t,t<n->f t=g t):yV n f=yV n g:=by
 unfold yV;exact zA7 fun t a=>h t (yP.1 a)
def jD(f g:Nat->Int)(j:Nat):Nat->Int:=fun t=>if t<j then f t else g t
theorem zGm(H:Nat)(a0:H=211∨H=163)(h z n E G:Nat)(f g:Nat->Int)(kv:Value)(k:Int)(w:World)(hv:jY w h (yV n f))(a:jY w z (yV n g))(a1:h≠z)(c:jE w kv k)
  (hn:n<=1000000) (a6:n<=E) (a7:E<=9223372036854775807) (a8:n<=G) (a9:G<=9223372036854775807)
  (N:∀t,t<n->Sm (f t)/\Sm (g t)/\Sm (k*g t)) (S:Sm k):
  CPq H #[slq h n E,slq z n G,kv] w fun e w'=>(∃u,e= .returned u)/\zB0 [h] w w'/\jY w' h (yV n (fun t=>f t+k*g t)):=by
 have HS:=xgv N;have HK:=xgv S;obtain⟨kn,ka,kl,kc,kx,rfl,T⟩:=id c;have a4:=xgw T;clear N S T;have b2:=hv.lt;have b3:=a.lt;obtain⟨F,hF⟩:∃F:Nat->Int,(fun t=>f t+k*g t)=F:=⟨_,rfl⟩;rw[hF];have L:jI (∀t,F t=f t+k*g t):=⟨fun t=>by rw[<-hF]⟩;clear hF;rcases a0 with rfl|rfl
 all_goals
  first|go_enter Tryz.func211,Tryz.ntmps211|go_enter Tryz.func163,Tryz.ntmps163
  go_upto_region 1 with(fail)
  refine zF ?_;intro W0 O;obtain⟨B,b,b5⟩:=qJ O;have W:=hv.I B;have a2:=a.I B;have C:=c.ext (lx B);have V:yV n f=yV n (jD F f 0):=yH fun t _=>by unfold jD;rw[zA oM]
  rw[V]at W;have d:=zB0.of [h] B;clear O V hv a c;go_wp2;go_loopw [10] (fun K wr=>∃j:Nat,j<=n/\K=niq j/\zB0 [h] w wr/\Blk wr w.heap.size 43 #[.bool kn,.slice ka kl kc]/\jE wr (.agg #[.bool kn,.slice ka kl kc]) k/\jY wr z (yV n g)/\jY wr h (yV n (jD F f j))) (fun K _=>n-(intOf K).toNat)
  case atStart=>exact⟨0,oM,rfl,d,b,C,a2,W⟩
  obtain⟨j,hj,rfl,d,b,c,a,hv⟩:=hrel;by_cases s:j<n
  .obtain⟨xs,xa,xl,xc,p1,p2,-,-,p⟩:=a.cell (yO s)
   have b4:=a.lt;have b0:=b.lt;go_upto_region 4 with(fail)
   refine zF ?_;intro W6 P;obtain⟨o,q,b6⟩:=qJ P;have M:=q.two;have d:=d.trans (zB0.of [h] o);have b:=b.I o;have c:=c.ext (lx o);have a:=a.I o;have hv:=hv.I o;have p:=p.ext (lx o);clear p1 p2 P;go_wp2_with fail
   refine(zAw _ (g j) W6 p.J).mono ?_;rintro e w7 ⟨rfl,l⟩;have d:=d.trans (zB0.of [h] l);have b:=b.I l;have c:=c.ext (lx l);have a:=a.I l;have hv:=hv.I l;have p:=p.ext (lx l);have q:=q.I l;clear M;by_cases J:g j=0
   .rw [zBL J]
    go_wp2;go_roundw
    case rel=>
     have x:yV n (jD F f j)=yV n (jD F f (j+1)):=yH fun t _=>by
      unfold jD;by_cases m:t<j
      .rw[zB m,zB oM]
      by_cases A:t=j
      .subst A
       rw[zA m,zB oM,L.out,J,qB,zAJ]
      rw[zA m,zA oM]
     rw[x]at hv;exact⟨j+1,oM,by simp,d,b,c,a,hv⟩
    case measure=>exact meq
   have hc:=zCm J;obtain⟨Z,C⟩:∃Z,zAv (g j) 0=Z:=⟨_,rfl⟩;rw[C]at hc ⊢
   clear C;obtain⟨ys,ya,yl,yc,v1,v2,-,-,Y⟩:=hv.cell (yO s);have a3:jD F f j j=f j:=by unfold jD;rw[zA oM]
   rw[a3]at Y;have M:=q.two;have k1:=b.two;have lv:=hv.lt;have lb:=b.lt;have l7:=q.lt;have D:=xgv (HS.out j s);go_upto_region 5 with(fail)
   refine yA 11 [pcI 8 (k*g j),pcD 9 [8] (fun w v=>jE w v (f j+k*g j))] ?_;refine sRd ?_;refine sRc (fun wS hI Gk I=>by go_simp;exact ck I (zES _ _ k (g j) _ (c.ext hI.lext).J (p.ext hI.lext).J HK.out D.out.2.1)) (fun b8 _=>?_);refine sRc (fun wS hI Q Gk I=>by go_simp;exact ck I (zIE _ _ (f j) (k*g j) _ (Y.ext hI.lext).J Q.J D.out.1 D.out.2.2)) (fun b9 _=>?_);refine sRd ?_;refine sRe ?_;intro w9 r Q R;obtain⟨pn,pa,pl,pc,px,rfl,U⟩:=id R;have a5:=xgw U;clear U;have X:=hv.I r;obtain⟨zs,za,zl,zc,z1,z2,z3,z4,-⟩:=X.cell (yO s);have y:=X.set (k:=j) (by rw[qN];exact s) R;have d:=d.trans (zB0.of [h] r);have c:=c.ext (lx r);have b:=b.I r;have a:=a.I r;have b7:=d.bel.size;go_wp2;go_roundw
   case rel=>
    have x:(yV n (jD F f j)).set j (f j+k*g j)=yV n (jD F f (j+1)):=by
     rw[zEF];exact yH fun t _=>by
      unfold jD;by_cases A:t=j
      .subst A
       rw[zB rfl,zB oM,L.out]
      rw[zA A];by_cases m:t<j
      .rw[zB m,zB oM]
      rw[zA m,zA oM]
    rw[x]at y;refine⟨j+1,oM,by simp,d.trans ⟨yB (yB (zC _ _) (zH _) _ _) (zH _) _ _,y.2,fun i _ hi=>yL _ _ _ _ _ _ _ (by simpa using hi)⟩,(yL _ _ _ _ _ _ _ oM).trans b,c.ext y.2,a.old (yL _ _ _ _ _ _ _ (qF a1)) y.2,y.1⟩
   case measure=>exact meq
  obtain rfl:j=n:=oM;have x:yV j (jD F f j)=yV j F:=yH fun t ht=>by unfold jD;rw[zB ht]
  rw[x]at hv;go_wp2;exact bodyPost_end (results_none rfl _ _ _) rfl ⟨⟨_,rfl⟩,d,hv⟩
abbrev zSl:=zGm 211 (.inl rfl)
abbrev zLD:=zGm 163 (.inr rfl)
theorem qH.only(h:qH w base A C bs M)(i:zB0 S w w')(hd:∀b∈bs,b ∉ S)(f:∀g∈S,∃r,jY w g r):qH w' base A C bs M:=by
 refine⟨⟨h.own.1,?_⟩,h.len,fun k b r d m=>by
  obtain⟨a,e,c⟩:=h.row k b r d m;exact⟨a,e,c.only i (hd b (xgd d))⟩,h.nodup,h.cb⟩
 rcases h.own.2 with d|⟨g,cap,j,a,e,c,l⟩
 exact .inl d;refine .inr ⟨g,cap,j,a,e,?_,l⟩;refine(i.old g (Array.getElem?_eq_some_iff.1 c).1 ?_).trans c;intro n;obtain⟨r,f⟩:=f g n;have:=zGw h.own f;rw[a]at this;exact this rfl
theorem qH.setRow(h:qH w base A C bs M)(d:bs[i]?=some b)(p:zB0 [b] w w')(F:jY w' b r)(D:r.length=C):
  qH w' base A C bs (M.set i r):=by
 have B:=(xge.1 d).1;have o:i<M.length:=by rw[h.len];exact B
 obtain⟨H,K,I⟩:=h.row i b M[i] d (xga o);refine⟨⟨h.own.1,?_⟩,by simp[h.len],?_,h.nodup,h.cb⟩
 .rcases h.own.2 with f|⟨g,cap,q,l,s,m,t⟩
  .exact .inl f
  refine .inr ⟨g,cap,q,l,s,?_,t⟩;refine(p.old g (Array.getElem?_eq_some_iff.1 m).1 ?_).trans m;intro n;have:=zGw h.own I;rw[l]at this;simp at n;exact this (by rw[n];rfl)
 intro k j G a c;by_cases e:k=i
 .subst e
  rw[d]at a;injection a with a
  subst a;rw[List.getElem?_set_self o]at c;injection c with c
  subst c;exact⟨H,D,F⟩
 rw[List.getElem?_set_ne (qF e)]at c;obtain⟨u,v,x⟩:=h.row k j G a c;have J:=(xge.1 a).1;have E:j≠b:=by
  intro z;subst z;have f:=(xge.1 a).2;have y:=(xge.1 d).2;exact e ((jN h.nodup).1 (f.trans y.symm))
 exact⟨u,v,x.only p (by simpa using E)⟩
def zB4(F:Nat->Nat->Int)(i j:Nat)(k:Int):Nat->Nat->Int:=fun a b=>if a=i then F i b+k*F j b else F a b
theorem zLm{k:Int}(f:i<R):(genM R C F).set i (yV C (fun t=>F i t+k*F j t))=genM R C (zB4 F i j k):=by
 apply qX;simp[genM];intro a c d;by_cases e:a=i
 .subst e
  rw[zBG];simp[genM,yV,zB4]
 have b:i≠a:=fun h=>e h.symm
 rw[zBb b];simp[genM,zB4,e]
theorem qH.rowAt(h:qH w base A C bs (genM R C F))(a:i<R):∃b,bs[i]?=some b/\jY w b (yV C (F i)):=by
 have c:bs.length=R:=by rw[<-h.len];simp[genM]
 refine⟨bs[i],xga oM,?_⟩;exact(h.row i bs[i] (yV C (F i)) (xga oM) (zDS R C F a)).2.2
theorem zOW(h:qH w base A C bs (genM R C F))(g:i<R)(x:j<R)(v:i≠j)(q:bs[i]?=some bi)(r:bs[j]?=some bj)(d:Value)(k:Int)
  (y:jE w d k) (o:C<=1000000) (p:∀t,t<C->Sm (F i t)/\Sm (F j t)/\Sm (k*F j t)) (z:Sm k):
  CPq 211 #[.slice (some ⟨bi,0,none⟩) C C,.slice (some ⟨bj,0,none⟩) C C,d] w fun e w'=>(∃u,e= .returned u)/\zB0 [bi] w w'/\qH w' base A C bs (genM R C (zB4 F i j k)):=by
 obtain⟨a,c,G⟩:=h.rowAt g;obtain⟨b,f,H⟩:=h.rowAt x;obtain rfl:a=bi:=qD (c.symm.trans q);obtain rfl:b=bj:=qD (f.symm.trans r);have B:a≠b:=by
  intro s;subst s;obtain⟨I,m⟩:=xge.1 c;obtain⟨J,n⟩:=xge.1 f;exact v ((jN h.nodup).1 (m.trans n.symm))
 refine(zSl a b C C C (F i) (F j) d k w G H B y o (xgf _) oM (xgf _) oM p z).mono ?_;rintro e w' ⟨E,l,D⟩;refine⟨E,l,?_⟩;rw[<-zLm g];exact h.setRow c l D (qN _ _)
def Wri(w:World)(A:Value)(R C:Nat)(bs:List Nat)(F:Nat->Nat->Int):Prop:=qH w 0 A C bs (genM R C F)
theorem Wri.I(h:Wri w A R C bs F)(a:BWq w w'):Wri w' A R C bs F:=qH.I h a
theorem Wri.len(h:Wri w A R C bs F):bs.length=R:=by rw[<-qH.len h];simp[genM]
theorem Wri.blk(h:Wri w A R C bs F)(d:b∈bs):∃r,jY w b r:=by
 obtain⟨k,f,e⟩:=qZ d;have j:=h.len;obtain⟨g,a,c⟩:=qH.rowAt h (i:=k) oM;rw[xga f,e]at a;injection a with a
 subst a;exact⟨_,c⟩
theorem Wri.only(h:Wri w A R C bs F)(e:zB0 [b] w w')(d:b ∉ bs)(f:jY w b r):Wri w' A R C bs F:=
 qH.only h e (fun x i=>by
  intro c;simp at c;subst c;exact d i) (fun g a=>by
  simp at a;subst a;exact⟨_,f⟩)
def Far(xs ys:List Nat):Prop:=∀b,b∈xs->b ∉ ys
structure zFx(w:World)(As At Ai:Value)(n Cs Ct:Nat)(bss bst bsi:List Nat)(S T I:Nat->Nat->Int):Prop where
 s:Wri w As n Cs bss S
 t:Wri w At n Ct bst T
 i:Wri w Ai n Ct bsi I
 st:Far bss bst
 si:Far bss bsi
 ti:Far bst bsi
 ast:∀g,As.ownBlock=some g->At.ownBlock≠some g
 asi:∀g,As.ownBlock=some g->Ai.ownBlock≠some g
 ati:∀g,At.ownBlock=some g->Ai.ownBlock≠some g
abbrev tRR:TypeId:=30
theorem Tryz.infoRR:(Tryz.prog.info? tRR).map (fun i=>(i.zero,i.size,i.bytes))=some (some (.slice none 0 0),1,24):=by kernel_rfl
theorem zCg(t:TypeId)(n:Nat)(cs:Array Value)(k:Int)(j:Nat)(v:Value)(W:World)(h:Tryz.prog.underlying t=some (.array n tRR))(c:k=(j:Int))(g:j<n)(hv:cs[j]?=some v):
  (Instr.index t (.agg cs) (niq k)).run Tryz.prog W= .ok v W:=by
 subst c;obtain⟨m,b,i,e,l⟩:=info_parts Tryz.infoRR;have a:(0:Int)<=(j:Int)/\(j:Int)<(n:Int):=oM;have d:=zA5;simp[Instr.index,run_underlying h,asIntOf,a,part,isAgg,run_underlying d,sizeOf,typeInfo,b,e,hv,go_sem];intro f;omega
def zMx(C:Nat)(F:Nat->Nat->Int)(i j:Nat)(k:Int):Prop:=∀t,t<C->Sm (F i t)/\Sm (F j t)/\Sm (k*F j t)
theorem zM3(Z At Y:Value)(n Cs Ct i j:Nat)(C D B:List Nat)(S T I:Nat->Nat->Int)(kv:Value)(k:Int)(w:World)(h:zFx w Z At Y n Cs Ct C D B S T I)(G:i<n)(H:j<n)(a5:i≠j)(v:jE w kv k)
  (hn:n<=1000000) (d0:Cs<=1000000) (b3:Ct<=1000000) (hS:zMx Cs S i j k) (hT:zMx Ct T i j k) (hI:zMx Ct I j i (-k)) (b8:Sm k):
  CPq 200 #[.agg #[Z,At,Y],niq i,niq j,kv] w fun e w'=>(∃u,e= .returned u)/\Below 0 w w'/\zBq w w'/\(∀b,b<w.heap.size->b ∉ C->b ∉ D->b ∉ B->w'.heap[b]?=w.heap[b]?)∧
   zFx w' Z At Y n Cs Ct C D B (zB4 S i j k) (zB4 T i j k) (zB4 I j i (-k)):=by
 obtain⟨so,sn,V,rfl,s1,s2,s3,-⟩:=id (qH.rows h.s);obtain⟨uo,tn,X,rfl,t1,t2,t3,-⟩:=id (qH.rows h.t);obtain⟨io,d8,ic,rfl,i1,i2,i3,-⟩:=id (qH.rows h.i);obtain⟨kn,ka,kl,kc,kx,rfl,b9⟩:=id v;have d9:=xgw b9;have HS:=xgv hS;have HT:=xgv hT;have HI:=xgv hI;have R:=xgv b8;clear b9 hS hT hI b8;obtain⟨d,f,o,a1,a0,a2,b0,a9,b2⟩:=h;have c8:=xgv b0;have c7:=xgv a9;have c9:=xgv b2;clear b0 a9 b2;have e1:n=sn:=by rw[<-s1];simp[genM]
 have e2:n=tn:=by rw[<-t1];simp[genM]
 have e3:n=d8:=by rw[<-i1];simp[genM]
 subst e1;subst e2;subst e3;clear s1 t1 i1;have c0:∀b∈C,b<w.heap.size:=fun b l=>(d.blk l).elim fun r N=>N.lt
 have c2:∀b∈D,b<w.heap.size:=fun b l=>(f.blk l).elim fun r N=>N.lt
 have e0:∀b∈B,b<w.heap.size:=fun b l=>(o.blk l).elim fun r N=>N.lt
 go_enter Tryz.func200,Tryz.ntmps200;go_upto_region 1 with(fail)
 refine zF ?_;intro W0 b4;obtain⟨z,x,y,e4⟩:=zAU b4;have c1:=x.three;have d:=d.I z;have f:=f.I z;have o:=o.I z;have v:=v.ext (lx z);clear b4;go_wp2;clear c1;go_loopw [15] (fun mv wr=>∃m:Nat,m<=2/\mv=niq m/\Below 0 w wr/\zBq w wr/\(∀b,b<w.heap.size->b ∉ C->b ∉ D->b ∉ B->wr.heap[b]?=w.heap[b]?)/\Blk wr w.heap.size 176 #[.slice so n V,.slice uo n X,.slice io n ic]∧
  Blk wr (w.heap.size+1) 43 #[.bool kn,.slice ka kl kc]/\jE wr (.agg #[.bool kn,.slice ka kl kc]) k/\Wri wr (.slice so n V) n Cs C (if m=0 then S else zB4 S i j k)/\Wri wr (.slice uo n X) n Ct D (if m=2 then zB4 T i j k else T)/\Wri wr (.slice io n ic) n Ct B I) (fun mv _=>2-(intOf mv).toNat)
 case atStart=>exact⟨0,oM,rfl,z.mono (zH _),lx z,fun b l _ _ _=>z.block b l,x,y,v,d,f,o⟩
 obtain⟨m,hm,rfl,E,a8,a6,x,y,v,d,f,o⟩:=hrel;have lk:=y.lt;have d1:=y.two;by_cases d5:m=0
 .subst d5
  rw[zB rfl]at d;rw[zA oM]at f;obtain⟨g,bi,rfl,hg,A,b5,o1,-⟩:=qH.at_ d (i:=i) (by rw[d.len];exact G);obtain⟨M,bj,q,b7,F,b6,o2,-⟩:=qH.at_ d (i:=j) (by rw[d.len];exact H);obtain rfl:g=M:=by injection q with q;injection q
  have p:=xgd A;obtain⟨ri,a7⟩:=d.blk p;have d4:=fun W=>zCg 209 2 #[slq g n V,.slice uo n X] 0 0 _ W Tryz.underlying209 rfl oM rfl
  go_upto_region 4 with(fail)
  refine yA 9 [] ?_;refine sRd ?_;refine sRf ?_;intro w8 a;have c3:=lx a;have c4:=a.block;have P:=d.I a;go_wp2_with fail
  refine(zOW P G H a5 A F _ k (v.ext (lx a)) d0 HS.out R.out).mono ?_;rintro e w9 ⟨⟨u,rfl⟩,t,Q⟩;go_wp2;go_roundw
  case measure=>simp[intOf]
  have c6:=E.size;have a3:w.heap.size≠bi:=by have:=c0 bi p;omega
  have a4:w.heap.size+1≠bi:=by have:=c0 bi p;omega
  have O:=a7.I a;have c:=(zB0.of [bi] a).trans t;refine⟨1,oM,by simp,E.trans c.bel,a8.trans c.lext,fun b l J K L=>(c.old b oM (by simp;rintro rfl;exact J p)).trans (a6 b l J K L),(c.old _ x.lt (by simpa using a3)).trans x,(c.old _ y.lt (by simpa using a4)).trans y,v.ext c.lext,?_,?_,?_⟩;rw[zA oM];exact Q;rw[zA oM];exact(f.I a).only t (fun s=>a1 _ p s) O;exact(o.I a).only t (fun s=>a0 _ p s) O
 by_cases d6:m=1
 .subst d6
  rw[zA oM]at d f;obtain⟨g,bi,rfl,hg,A,b5,o1,-⟩:=qH.at_ f (i:=i) (by rw[f.len];exact G);obtain⟨M,bj,q,b7,F,b6,o2,-⟩:=qH.at_ f (i:=j) (by rw[f.len];exact H);obtain rfl:g=M:=by injection q with q;injection q
  have p:=xgd A;obtain⟨ri,a7⟩:=f.blk p;have d4:=fun W=>zCg 209 2 #[.slice so n V,slq g n X] 1 1 _ W Tryz.underlying209 rfl oM rfl
  go_upto_region 4 with(fail)
  refine yA 9 [] ?_;refine sRd ?_;refine sRf ?_;intro w8 a;have c3:=lx a;have c4:=a.block;have P:=f.I a;go_wp2_with fail
  refine(zOW P G H a5 A F _ k (v.ext (lx a)) b3 HT.out R.out).mono ?_;rintro e w9 ⟨⟨u,rfl⟩,t,Q⟩;go_wp2;go_roundw
  case measure=>simp[intOf]
  have c6:=E.size;have a3:w.heap.size≠bi:=by have:=c2 bi p;omega
  have a4:w.heap.size+1≠bi:=by have:=c2 bi p;omega
  have O:=a7.I a;have c:=(zB0.of [bi] a).trans t;refine⟨2,oM,by simp,E.trans c.bel,a8.trans c.lext,fun b l J K L=>(c.old b oM (by simp;rintro rfl;exact K p)).trans (a6 b l J K L),(c.old _ x.lt (by simpa using a3)).trans x,(c.old _ y.lt (by simpa using a4)).trans y,v.ext c.lext,?_,?_,?_⟩;rw[zA oM];exact(d.I a).only t (fun s=>a1 _ s p) O;rw[zB rfl];exact Q;exact(o.I a).only t (fun s=>a2 _ p s) O
 obtain rfl:m=2:=oM;rw[zA oM]at d;rw[zB rfl]at f;obtain⟨g,bi,rfl,hg,A,b5,o1,-⟩:=qH.at_ o (i:=i) (by rw[o.len];exact G);obtain⟨M,bj,q,b7,F,b6,o2,-⟩:=qH.at_ o (i:=j) (by rw[o.len];exact H);obtain rfl:g=M:=by injection q with q;injection q
 have U:=xgd F;obtain⟨rj,d7⟩:=o.blk U;have c1:=x.three;have lx0:=x.lt;have d2:jI (Sm (-k)):=⟨R.out.mono (by rw[zY];exact xgf _)⟩;go_upto_region 6 with(fail)
 refine yA 12 [pcI 11 (-k)] ?_;refine sRd ?_;refine sRc (fun wS hI Gk hG=>by go_simp;exact ck hG (zBk _ k _ (v.ext hI.lext).J R.out)) (fun e5 _=>?_);refine sRe ?_;intro w8 a d3;have c3:=lx a;have c4:=a.block;have P:=o.I a;go_wp2_with fail
 refine(zOW P H G (qF a5) F A _ (-k) d3 b3 HI.out d2.out).mono ?_;rintro e w9 ⟨⟨u,rfl⟩,t,Q⟩;have c6:=E.size;have c5:=d7.I a;have c:=(zB0.of [bj] a).trans t;go_wp2;refine bodyPost_end (results_none rfl _ _ _) rfl ⟨⟨_,rfl⟩,E.trans c.bel,a8.trans c.lext,fun b l J K L=>(c.old b oM (by simp;rintro rfl;exact L U)).trans (a6 b l J K L),?_,?_,Q,a1,a0,a2,c8.out,c7.out,c9.out⟩;exact(d.I a).only t (fun s=>a0 _ s U) c5;exact(f.I a).only t (fun s=>a2 _ s U) c5
def swp(i j:Nat)(k:Nat):Nat:=if k=i then j else if k=j then i else k
theorem zU2(i j k:Nat):swp i j (swp i j k)=k:=by
 unfold swp;by_cases b:k=i
 .rw[zB b]
  by_cases a:j=i
  .rw[zB a];omega
  rw[zA a,zB rfl];omega
 rw[zA b];by_cases a:k=j
 .rw[zB a,zB rfl];omega
 rw[zA a,zA b,zA a]
theorem zGS{e:Type}{l:List e}{x y:e}(c:l[i]?=some x)(d:l[j]?=some y)(k:Nat):((l.set i y).set j x)[k]?=l[swp i j k]?:=by
 have f:=(xge.1 c).1;have g:=(xge.1 d).1;unfold swp;by_cases b:k=j
 .subst b
  rw[List.getElem?_set_self (by simpa using g)];by_cases a:k=i
  .subst a
   rw[zB rfl];exact c.symm
  rw[zA a,zB rfl];exact c.symm
 rw[List.getElem?_set_ne (qF b)];by_cases a:k=i
 .subst a
  rw[List.getElem?_set_self f,zB rfl];exact d.symm
 rw[List.getElem?_set_ne (qF a),zA a,zA b]
theorem zRp{m:Type}{l:List m}{x y:m}(w:l.Nodup)(e:l[i]?=some x)(f:l[j]?=some y):((l.set i y).set j x).Nodup:=by
 show List.Pairwise _ _;rw[List.pairwise_iff_getElem];intro a b g d z r;have c:((l.set i y).set j x)[a]?=((l.set i y).set j x)[b]?:=by rw[xga g,xga d,r]
 rw[zGS e f,zGS e f]at c;have s:=(xge.1 e).1;have t:=(xge.1 f).1;have v:((l.set i y).set j x).length=l.length:=by simp
 rw[v]at d g;have h:∀k,k<l.length->swp i j k<l.length:=by
  intro k u;unfold swp;split;exact t;split;exact s;exact u
 have n:=h a oM;have o:=h b d;rw[xga n,xga o]at c;injection c with c
 have p:=(jN w).1 c;have q:=congrArg (swp i j) p;rw[zU2,zU2]at q;omega
theorem qH.swap(h:qH w base (.slice (some ⟨g,0,none⟩) n cap) C bs M){q s:List Int}(d:bs[i]?=some bi)(f:bs[j]?=some bj)(H:M[i]?=some q)(I:M[j]?=some s):
  qH ((w.setCell ⟨g,i,none⟩ (.slice (some ⟨bj,0,none⟩) C C)).setCell ⟨g,j,none⟩ (.slice (some ⟨bi,0,none⟩) C C)) base (.slice (some ⟨g,0,none⟩) n cap) C ((bs.set i bj).set j bi) ((M.set i s).set j q)∧
   zBq w ((w.setCell ⟨g,i,none⟩ (.slice (some ⟨bj,0,none⟩) C C)).setCell ⟨g,j,none⟩ (.slice (some ⟨bi,0,none⟩) C C)):=by
 have N:=(xge.1 d).1;have O:=(xge.1 f).1;rcases h.own.2 with⟨e,L⟩|⟨K,J,t,e,v,x,y,z,A,B⟩
 omega;injection e with a D u
 injection a with a
 injection a with a
 subst a;subst D;subst u;have c:Blk w g tR t:=x;have p:zBq w ((w.setCell ⟨g,i,none⟩ (.slice (some ⟨bj,0,none⟩) C C)).setCell ⟨g,j,none⟩ (.slice (some ⟨bi,0,none⟩) C C)):=(c.lext dE _ _).trans ((c.set_ _ _).lext dE _ _);refine⟨⟨⟨by simp[zBV],.inr ⟨g,cap,_,by simp,v,(c.set_ _ _).set_ _ _,by simpa using y,z,by simpa using A,?_⟩⟩,by simp[h.len],?_,zRp h.nodup d f,h.cb⟩,p⟩
 .rw[zA9,zA9]
  simp only[List.length_set];rw[List.take_set,List.take_set,B];simp[zBV,List.map_set]
 intro k b r m o;rw[zGS d f]at m;rw[zGS H I]at o;obtain⟨E,F,l⟩:=h.row _ b r m o;refine⟨E,F,l.old (yL w g _ _ b _ _ ?_) p⟩;intro G;have:=zGw h.own l;exact this (by rw[G];rfl)
theorem zTM{C:Nat}{F:Nat->Nat->Int}(d:i<R)(e:j<R):
  ((genM R C F).set i (yV C (F j))).set j (yV C (F i))=genM R C (fun a b=>F (swp i j a) b):=by
 apply List.ext_getElem?;intro k;have f:(genM R C F)[i]?=some (yV C (F i)):=zDS R C F d;have g:(genM R C F)[j]?=some (yV C (F j)):=zDS R C F e;rw[zGS f g];rcases zK k R with h|h
 .have c:swp i j k<R:=by
   unfold swp;split;exact e;split;exact d;exact h
  rw[zDS R C F c,zDS R C _ h]
 have c:swp i j k=k:=by
  unfold swp;rw[zA oM,zA oM]
 rw[c,List.getElem?_eq_none (by simp[genM];exact h),List.getElem?_eq_none (by simp[genM];exact h)]
def zKu(bs:List Nat)(i j:Nat):List Nat:=(bs.set i (bs.getD j 0)).set j (bs.getD i 0)
theorem zEH(f:i<bs.length)(g:j<bs.length)(h:b∈zKu bs i j):b∈bs:=by
 have a:bs[i]?=some bs[i]:=xga f;have c:bs[j]?=some bs[j]:=xga g;unfold zKu at h;rw[zB8 a,zB8 c]at h;obtain⟨k,l,e⟩:=qZ h;have d:((bs.set i bs[j]).set j bs[i])[k]?=some b:=by rw[xga l,e]
 rw[zGS a c]at d;exact xgd d
theorem Wri.swap(h:Wri w (.slice (some ⟨g,0,none⟩) n cap) R C bs F)(e:i<R)(f:j<R)(c:bs[i]?=some bi)(d:bs[j]?=some bj):
  Wri ((w.setCell ⟨g,i,none⟩ (.slice (some ⟨bj,0,none⟩) C C)).setCell ⟨g,j,none⟩ (.slice (some ⟨bi,0,none⟩) C C)) (.slice (some ⟨g,0,none⟩) n cap) R C (zKu bs i j) (fun a b=>F (swp i j a) b)∧
   zBq w ((w.setCell ⟨g,i,none⟩ (.slice (some ⟨bj,0,none⟩) C C)).setCell ⟨g,j,none⟩ (.slice (some ⟨bi,0,none⟩) C C)):=by
 have k:=qH.swap h c d (zDS R C F e) (zDS R C F f);refine⟨?_,k.2⟩;unfold Wri zKu;rw[zB8 c,zB8 d,<-zTM e f];exact k.1
def qBe(M:List (List Int))(xs ys:List Nat):Nat->Nat->Int:=fun a b=>ent M (xs.getD a 0) (ys.getD b 0)
def zHS(w:World)(v:Value)(ls:List Int):Prop:=
 ∃ao n cap,v= .slice ao n cap/\ls.length=n/\n<=cap/\cap<=9223372036854775807/\(∀z∈ls,-9223372036854775808<=z/\z<=9223372036854775807)∧
  (ls≠ []->∃(b:Nat) (cs:Array Value),ao=some ⟨b,0,none⟩/\w.heap[b]?=some (.cells cs 2 (0,0))/\∀(k:Nat) (z:Int),ls[k]?=some z->cs[k]?=some (niq z))
theorem zHS.I(h:zHS w v ls)(l:BWq w w'):zHS w' v ls:=by
 obtain⟨ao,n,cap,e,f,g,i,j,k⟩:=h;refine⟨ao,n,cap,e,f,g,i,j,fun m=>?_⟩;obtain⟨b,cs,c,a,d⟩:=k m;exact⟨b,cs,c,(l.block _ (Array.getElem?_eq_some_iff.1 a).1).trans a,d⟩
theorem zHS.cell(h:zHS w (.slice ao n cap) ls){k:Nat}(c:k<ls.length):
  ∃b z,ao=some ⟨b,0,none⟩/\b<w.heap.size/\ls[k]?=some z/\w.cell? ⟨b,k,none⟩=some (niq z)/\-9223372036854775808<=z/\z<=9223372036854775807:=by
 obtain⟨m,u,o,g,r,s,t,i,j⟩:=h;injection g with f p q
 subst f;obtain⟨b,cs,e,d,l⟩:=j (by rintro rfl;simp at c);have a:=xga c;have:=i _ (xgd a);exact⟨b,_,e,(Array.getElem?_eq_some_iff.1 d).1,a,(cell_of_row w b k cs _ _ d).trans (l k _ a),this.1,this.2⟩
theorem zJG(h:qH w base A C bs (genM R C F))(g:i<R)(x:j<R)(v:i≠j)(q:bs[i]?=some bi)(r:bs[j]?=some bj)(d:Value)(k:Int)
  (y:jE w d k) (o:C<=1000000) (p:∀t,t<C->Sm (F i t)/\Sm (F j t)/\Sm (k*F j t)) (z:Sm k):
  CPq 163 #[.slice (some ⟨bi,0,none⟩) C C,.slice (some ⟨bj,0,none⟩) C C,d] w fun e w'=>(∃u,e= .returned u)/\zB0 [bi] w w'/\qH w' base A C bs (genM R C (zB4 F i j k)):=by
 obtain⟨a,c,G⟩:=h.rowAt g;obtain⟨b,f,H⟩:=h.rowAt x;obtain rfl:a=bi:=qD (c.symm.trans q);obtain rfl:b=bj:=qD (f.symm.trans r);have B:a≠b:=by
  intro s;subst s;obtain⟨I,m⟩:=xge.1 c;obtain⟨J,n⟩:=xge.1 f;exact v ((jN h.nodup).1 (m.trans n.symm))
 refine(zLD a b C C C (F i) (F j) d k w G H B y o (xgf _) oM (xgf _) oM p z).mono ?_;rintro e w' ⟨E,l,D⟩;refine⟨E,l,?_⟩;rw[<-zLm g];exact h.setRow c l D (qN _ _)

end Go.Proofs.YtkidaebmhlijlaaGreat
