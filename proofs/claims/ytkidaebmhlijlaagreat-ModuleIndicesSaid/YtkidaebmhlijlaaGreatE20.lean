/- Joined. -/
import Derived.Lib.AppendZeros
import Derived.Lib.AppendZerosOnto
import Derived.Lib.Overlaps
import Derived.Laws.CopyRow
import Derived.Laws.Externs
import Derived.ChangeKeysEq
import Derived.Laws.StructEq
import Derived.Test.YtkidaebmhlijlaaGreatE17
import Derived.Test.YtkidaebmhlijlaaGreatE18
set_option linter.unusedVariables false
set_option linter.unusedSimpArgs false
set_option linter.unusedSectionVars false
set_option maxHeartbeats 16000000
set_option maxRecDepth 100000
variable{cs:Array Go.Value}{base g i k n r:Nat}{κ ρ:Nat->Nat}{Z:Nat->Prop}{o:Go.Oper}{t:Go.TypeId}{v:Go.Value}{w w':Go.World}
namespace Go.Proofs.YtkidaebmhlijlaaGreat
open Go.RowKit
abbrev tBo:TypeId:=4
theorem Tryz.infoBo:(Tryz.prog.info? tBo).map (fun i=>(i.zero,i.size,i.bytes))=some (some (.bool false),1,1):=by kernel_rfl
def zJC(n:Nat)(g:Nat->Bool):Array Value:=((List.range n).map fun i=>Value.bool (g i)).toArray
theorem zPx{g:Nat->Bool}(h:i<n):(zJC n g)[i]?=some (.bool (g i)):=by simp[zJC,h]
theorem zVX{g:Nat->Bool}{z:Bool}:(zJC n g).setIfInBounds i (.bool z)=zJC n (fun t=>if t=i then z else g t):=by
 apply zCd;simp[zJC];intro a b c;by_cases e:a=i
 .subst e;simp[zJC]
 have:i≠a:=fun h=>e h.symm
 simp[zJC,this,e]
theorem zIF{f g:Nat->Bool}(h:∀t,t<n->f t=g t):zJC n f=zJC n g:=by
 unfold zJC;rw[zA7 fun t a=>by rw[h t (yP.1 a)]]
theorem qAi(n:Nat):madeCells (Value.bool false).cells (n*1)=zJC n (fun _=>false):=by
 apply zCd;simp[madeCells,zJC];intro i a b;simp[madeCells,zJC,Nat.mod_one,Value.cells]
theorem mkB(m:Int)(n:Nat)(b:m=n)(h:n<=1099511627776)(W:World):
  (Instr.makeSlice 149 (niq m) (niq m)).run Tryz.prog W= .ok (slq W.heap.size n n) (W.alloc (.cells (zJC n (fun _=>false)) tBo)):=by
 subst b;obtain⟨f,a,c,d,e⟩:=info_parts Tryz.infoBo;have:=zCn (P:=Tryz.prog) 149 tBo f _ Tryz.underlying149 a c .i64 .i64 n n (xgf _) (by rw[e];omega) oM W;rw[this,d,qAi]
theorem zTY(b n f:Nat)(g:Nat->Bool)(w:World)(h:Blk w b tBo (zJC n g))(x:n<=1000000)(hc:n<=f)(u:f<=9223372036854775807):
  CPq 174 #[slq b n f,.bool false] w fun e w'=>(∃r:Int,e= .returned (niq r)/\((r=-1/\∀i,i<n->g i=true)∨∃i:Nat,r=i/\i<n/\g i=false))/\BWq w w':=by
 go_enter Tryz.func174,Tryz.ntmps174;go_wp2;go_loopw [8] (fun l wr=>∃k:Nat,k<=n/\l=niq k/\BWq w wr/\jI (∀i,i<k->g i=true)) (fun l _=>n-(intOf l).toNat)
 case atStart=>exact⟨0,oM,rfl,zC _ _,⟨fun i t=>oM⟩⟩
 obtain⟨k,v,rfl,c,o⟩:=hrel;have q:=h.I c;by_cases p:k<n
 .have m:=(q.cell k).trans (zPx p)
  by_cases a:g k=false
  .rw[a]at m
   have d:=xgv a;clear a;go_wp2;go_ret;exact⟨⟨k,rfl,.inr ⟨k,rfl,p,d.out⟩⟩,c⟩
  have j:g k=true:=by cases s:g k with|true=>rfl|false=>exact absurd s a
  rw[j]at m;have d:=xgv j;clear a j;go_wp2;go_roundw
  case rel=>
   refine⟨k+1,oM,by simp,c,⟨fun i t=>?_⟩⟩;by_cases e:i=k
   .rw[e];exact d.out
   exact o.out i oM
  case measure=>exact meq
 obtain rfl:k=n:=oM;go_wp2;go_ret;exact⟨⟨-1,rfl,.inl ⟨rfl,o.out⟩⟩,c⟩
theorem zNF(b n d:Nat)(g:Nat->Bool)(w:World)(h:Blk w b tBo (zJC n g))(u:n<=1000000)(hc:n<=d)(s:d<=9223372036854775807):
  CPq 128 #[slq b n d,.bool false] w fun e w'=>e= .returned (.bool (decide (¬ ∀i,i<n->g i=true)))/\BWq w w':=by
 obtain⟨c,f⟩:∃c:Bool,decide (¬ ∀i,i<n->g i=true)=c:=⟨_,rfl⟩;rw[f];have k:=xgv f;clear f;go_enter Tryz.func128,Tryz.ntmps128;go_wp2_with fail
 refine(zTY b n d g w h u hc s).mono ?_;rintro e x ⟨⟨r,rfl,v⟩,m⟩;rcases v with⟨rfl,l⟩|⟨i,rfl,t,o⟩
 .have q:=xgv l
  clear l;go_wp2;go_ret;refine⟨?_,m⟩;have a:c=false:=by rw[<-k.out];exact zT (fun j=>j q.out)
  rw[a];rfl
 have p:=xgv o;clear o;go_wp2;go_ret;refine⟨?_,m⟩;have a:c=true:=by rw[<-k.out];exact zQ (fun j=>by have a:=p.out;rw[j i t]at a;cases a)
 rw[a];rfl
theorem zTI(g i:Value)(a b:Int)(w:World)(h1:jE w g a)(h2:jE w i b):
  CPq 127 #[g,i] w fun e w'=>e= .returned (.bool (decide (a=b)))/\BWq w w':=by
 obtain⟨A,q,y,t,D,rfl,o⟩:=id h1;obtain⟨B,r,z,u,E,rfl,p⟩:=id h2;clear o p;have hd:decide (a=b)=decide (zAv a b=0):=decide_eq_decide.2 ⟨fun h=>zCw h,fun h=>zJE.2.1 h⟩;rw[hd];clear hd;go_enter Tryz.func127,Tryz.ntmps127;go_upto_region 1 with(fail)
 refine zF ?_;intro j m;obtain⟨c,k,l,x⟩:=zAU m;have s:=k.two;have v:=l.two;go_wp2_with fail
 refine(zSx _ _ a b j (h1.ext (lx c)).J (h2.ext (lx c)).J).mono ?_;rintro e C ⟨rfl,n⟩;obtain⟨f,d⟩:∃f,zAv a b=f:=⟨_,rfl⟩;rw[d];go_wp2;go_ret;exact⟨by first|rfl|(rw[d];rfl)|(rw[d];simp),nx c n⟩
theorem zZZ(a b:Value)(c d:Int)(w:World)(h1:jE w a c)(h2:jE w b d):
  CPq 127 #[a,b] w fun e w'=>∃v,e= .returned v/\v= .bool (decide (c=d))/\BWq w w':=by
 refine(zTI a b c d w h1 h2).mono ?_;rintro e w' ⟨rfl,f⟩;exact⟨_,rfl,rfl,f⟩
def zOJ(g:Nat->Bool)(j:Nat):Nat->Bool:=fun t=>if t<j then g t else false
theorem zSV{g:Nat->Bool}{j:Nat}:zJC n (fun t=>if t=j then g j else zOJ g j t)=zJC n (zOJ g (j+1)):=
 zIF fun t _=>by
  unfold zOJ;by_cases h:t=j
  .subst h;rw[zB rfl,zB oM]
  rw[zA h];by_cases a:t<j
  .rw[zB a,zB oM]
  rw[zA a,zA oM]
theorem zSz(x y:Value)(zs ys:List Int)(n:Nat)(w:World)(h1:zBy w x zs)(h2:zBy w y ys)(o:zs.length=n)(p:ys.length=n)(hn:n<=1000000):
  CPq 129 #[x,y,.func (.func 127) #[] #[]] w fun e w'=>
   e= .returned (slq w.heap.size n n)/\Blk w' w.heap.size tBo (zJC n (fun j=>decide (zs.getD j 0=ys.getD j 0)))/\BWq w w':=by
 obtain⟨Y,N,a3,rfl,C,e3,e4,-⟩:=id h1;obtain⟨bo,O,a0,rfl,D,f3,f4,-⟩:=id h2;obtain rfl:n=N:=oM;obtain rfl:n=O:=oM;have I:=fun W=>mkB (n:Int) n rfl oM W
 have A:=xgv o;have B:=xgv p;obtain⟨G,b⟩:∃G:Nat->Bool,(fun j=>decide (zs.getD j 0=ys.getD j 0))=G:=⟨_,rfl⟩;rw[b];have z:jI (∀t,G t=decide (zs.getD t 0=ys.getD t 0)):=⟨fun t=>by rw[<-b]⟩;clear o p C D b;go_enter Tryz.func129,Tryz.ntmps129;go_upto_region 2 with(fail)
 refine zF ?_;intro U l;obtain⟨E,a,a6⟩:=qJ l;have r:zJC n (fun _=>false)=zJC n (zOJ G 0):=zIF fun t _=>by unfold zOJ;rw[zA oM]
 rw[r]at a;clear l I r;go_wp2;go_loopw [14] (fun g wr=>∃j:Nat,j<=n/\g=niq j/\BWq w wr/\Blk wr w.heap.size tBo (zJC n (zOJ G j))) (fun g _=>n-(intOf g).toNat)
 case atStart=>exact⟨0,oM,rfl,E,a⟩
 obtain⟨j,hj,rfl,c,a⟩:=hrel;by_cases d:j<n
 .obtain⟨Z,h,s1,V,l1,c1,rfl,a4,s,P,Q,L⟩:=(h1.I c).cell (k:=j) (by rw[A.out];exact d)
  obtain⟨b2,i,s2,X,l2,c2,rfl,a5,u,R,S,M⟩:=(h2.I c).cell (k:=j) (by rw[B.out];exact d);have H:jI (decide (h=i)=G j):=⟨by rw[z.out,zB8 s,zB8 u]⟩;clear s u;have lA:=a.lt;go_upto_region 5 with(fail)
  refine yA 13 [pcD 11 [] (fun _ v=>v= .bool (decide (h=i)))] ?_;refine sRd ?_;refine sRc (fun wS hI T b=>?_) (fun _ f=>?_)
  .go_simp
   refine(zZZ _ _ h i _ (L.ext hI.lext) (M.ext hI.lext)).mono ?_;rintro e wa ⟨v,rfl,f,F⟩;exact⟨_,rfl,b _ _ f,F⟩
  obtain⟨_,-,rfl⟩:=f;refine sRd ?_;refine sRe ?_;intro w9 m _;rw[H.out];have a:=a.I m;have k1:=(a.cell j).trans (zPx d);have k2:=a.frozen j;have q:=a.set_ j (.bool (G j));rw[zVX,zSV]at q;clear P Q R S;go_wp2;go_roundw
  case rel=>exact⟨j+1,oM,by simp,yB (nx c m) (xgf _) _ _,q⟩
  case measure=>exact meq
 obtain rfl:j=n:=oM;have J:zJC j (zOJ G j)=zJC j G:=zIF fun t K=>by unfold zOJ;rw[zB K]
 rw[J]at a;go_wp2;go_ret;exact⟨rfl,a,c⟩
theorem zR9(j l:Value)(z k:Int)(kb:Nat)(x y:Value)(w:World)(h1:jE w j z)(h2:∃m,jE w l m)(s:Blk w kb tI #[x,y])(d:jE w (.agg #[x,y]) k)(h:Sm z)(i:Sm k):
  CPq 157 #[j,l,ptq kb 0] w (zDJ w (k*z)):=by
 obtain⟨T,B,R,F,xs,rfl,t⟩:=id h1;obtain⟨m,h2⟩:=h2;obtain⟨U,C,S,G,ys,rfl,u⟩:=id h2;obtain⟨Q,N,P,O,rfl,rfl⟩:=d.two;have n:=xgv h;have o:=xgv i;clear t u h i h2;go_enter Tryz.func157,Tryz.ntmps157;go_upto_region 1 with(fail)
 refine zF ?_;intro p r;obtain⟨b,q,D,a,M⟩:=zBc r;have E:=q.two;obtain⟨H,I,J,K⟩:=(s.I b).two;go_wp2_with fail
 refine(zES _ _ k z p (d.ext (lx b)).J (h1.ext (lx b)).J o.out n.out).mono ?_;rintro e Z ⟨v,rfl,g,c⟩;obtain⟨X,V,W,pc,Y,rfl,f⟩:=id g;have A:=xgw f;have a:=a.I c;have L:=a.two;clear f;go_wp2;exact jL rfl rfl rfl (a.put2 _ _) (g.ext (a.lext2 dE _ _)) (yB (yB (nx b c) oM 0 _) oM 1 _)
theorem zS0(C D:Value)(zs ys:List Int)(k:Int)(kb n:Nat)(x y:Value)(w:World)(h1:zBy w C zs)(h2:zBy w D ys)(s:zs.length=n)(u:ys.length=n)(hn:n<=1000000)(T:Blk w kb tI #[x,y])(U:jE w (.agg #[x,y]) k)
  (o:∀z∈zs,Sm z) (B:Sm k):
  CPq 184 #[C,D,.func (.func 157) #[] #[ptq kb 0]] w fun e w'=>
   e= .returned (slq w.heap.size n n)/\jY w' w.heap.size (yV n (fun j=>k*zs.getD j 0))/\BWq w w':=by
 obtain⟨ao,n1,a7,rfl,O,e3,e4,-⟩:=id h1;obtain⟨bo,n2,a6,rfl,P,f3,f4,-⟩:=id h2;obtain rfl:n=n1:=oM;obtain rfl:n=n2:=oM;have X:=fun W=>mkI (n:Int) n rfl oM W
 have I:=xgv s;have J:=xgv u;have K:=xgv o;have H:=xgv B;obtain⟨G,c⟩:∃G:Nat->Int,(fun j=>k*zs.getD j 0)=G:=⟨_,rfl⟩;rw[c];have F:jI (∀t,G t=k*zs.getD t 0):=⟨fun t=>by rw[<-c]⟩;clear s u O P c o;go_enter Tryz.func184,Tryz.ntmps184;go_upto_region 2 with(fail)
 refine zF ?_;intro M g;obtain⟨R,N,b0⟩:=qJ g;have a:jY M w.heap.size (yV n (jD G (fun _=>0) 0)):=by
  have m:=zH2 w n;have Q:List.replicate n (0:Int)=yV n (jD G (fun _=>0) 0):=by
   apply qX;simp[yV];intro i h1 h2;simp[yV,jD]
  rw[Q]at m;rw[g.out];exact m
 clear g X N;go_wp2;go_loopw [14] (fun l wr=>∃j:Nat,j<=n/\l=niq j/\BWq w wr/\jY wr w.heap.size (yV n (jD G (fun _=>0) j))) (fun l _=>n-(intOf l).toNat)
 case atStart=>exact⟨0,oM,rfl,R,a⟩
 obtain⟨j,hj,rfl,b,a⟩:=hrel;by_cases f:j<n
 .obtain⟨b1,d,s1,a1,l1,c1,rfl,a8,h,p1,p2,a0⟩:=(h1.I b).cell (k:=j) (by rw[I.out];exact f)
  obtain⟨b2,E,B,a2,l2,c2,rfl,a9,a4,q1,q2,a3⟩:=(h2.I b).cell (k:=j) (by rw[J.out];exact f);have S:jI (k*d=G j):=⟨by rw[F.out,zB8 h]⟩;have L:jI (Sm d):=⟨K.out _ (xgd h)⟩;have r:=T.I b;have V:=U.ext (lx b);have b3:=r.lt;clear h a4;have lA:=a.lt;go_upto_region 5 with(fail)
  refine yA 13 [pcI 11 (k*d)] ?_;refine sRd ?_;refine sRc (fun wS hI Gk c=>by go_simp;exact ck c (zR9 _ _ d k kb x y _ (a0.ext hI.lext) ⟨E,a3.ext hI.lext⟩ ((hI.old kb oM sI).trans r) (V.ext hI.lext) L.out H.out)) (fun b4 _=>?_);refine sRd ?_;refine sRe ?_;intro w9 q p;obtain⟨pn,pa,pl,pc,px,rfl,v⟩:=id p;have a5:=xgw v;have a:=a.I q;obtain⟨zs,za,zl,zc,d,E,z3,z4,-⟩:=a.cell (yO f);have A:=a.set (k:=j) (by rw[qN];exact f) p;rw[zJS S.out]at A;clear v p1 p2 q1 q2;go_wp2;go_roundw
  case rel=>exact⟨j+1,oM,by simp,yB (yB (nx b q) (xgf _) _ _) (xgf _) _ _,A.1⟩
  case measure=>exact meq
 obtain rfl:j=n:=oM;have Y:yV j (jD G (fun _=>0) j)=yV j G:=yH fun t Z=>by unfold jD;rw[zB Z]
 rw[Y]at a;go_wp2;go_ret;exact⟨rfl,a,b⟩
abbrev tF:TypeId:=71
def zHV(n0 C:Nat)(zs:List Int):World->Value->Prop:=fun w v=>∃g,v=slq g C C/\n0<=g/\jY w g zs
theorem zLK(n0 C:Nat)(zs:List Int):zAj (zHV n0 C zs):=fun _ _ _ e ⟨g,a,b,c⟩=>⟨g,a,b,c.I e⟩
theorem zTE(f g:Value)(zs ys:List Int)(k:Int)(b kb n:Nat)(x y:Value)(w:World)(h1:zBy w f zs)(h2:zBy w g ys)(r:zs.length=n)(s:ys.length=n)(t:n<=1000000)
  (o:Blk w b tF #[.func (.func 157) #[] #[ptq kb 0]]) (p:Blk w kb tI #[x,y]) (q:jE w (.agg #[x,y]) k) (c:∀z∈zs,Sm z) (u:Sm k):
  CPq 183 #[f,g,ptq b 0] w fun e w'=>∃v,e= .returned v/\zHV w.heap.size n (yV n (fun j=>k*zs.getD j 0)) w' v/\BWq w w':=by
 have D:=o.cell 0;have l:=xgv c;have i:=xgv u;obtain⟨G,a⟩:∃G:Nat->Int,(fun j=>k*zs.getD j 0)=G:=⟨_,rfl⟩;rw[a];have h:=xgv a;clear a c;obtain⟨A,F,E,rfl,-⟩:=id h1;obtain⟨C,H,B,rfl,-⟩:=id h2;go_enter Tryz.func183,Tryz.ntmps183;go_wp2_with fail
 refine(zS0 _ _ zs ys k kb n x y w h1 h2 r s t p q l.out i.out).mono ?_;rintro e I ⟨rfl,d,m⟩;rw[h.out]at d;go_wp2;go_ret;exact⟨_,rfl,⟨_,rfl,xgf _,d⟩,m⟩
theorem qH.ofPart{C:Nat}{a:List Nat}{M:List (List Int)}(k:Blk w g tR (zBO n C a))(c:a.length=n)(m:a.Nodup)(p:∀(t b:Nat),a[t]?=some b->base<=b/\∃r:List Int,M[t]?=some r/\r.length=C/\jY w b r)
  (j:M.length=n) (l:base<=g) (s:C<=1000000) (u:n<=1000000):qH w base (slq g n n) C a M:=by
 have o:(zBO n C a).toList=zBV C a:=by simp[zBO,c]
 refine⟨⟨by simp[zBV],.inr ⟨g,n,zBO n C a,by rw[c],l,k,oM,by simp[maxLen];omega,by rw[zDB oM];omega,?_⟩⟩,by rw[j,c],?_,m,oM⟩;rw[o,c,jS,jM (by simp[zBV,c])];intro t b r q d;obtain⟨e,v,f,h,i⟩:=p t b q;rw[f]at d;injection d with d
 subst d;exact⟨e,h,i⟩
theorem zS1(A:Value)(M:List (List Int))(R C:Nat)(k:Int)(E kb:Nat)(x y:Value)(w:World)(h:zG5 w A M)(hF:zBW R C M)(hR:R<=1000000)(N:C<=1000000)
  (hf:Blk w E tF #[.func (.func 157) #[] #[.pointer (some ⟨kb,0,none⟩)]]) (hk:Blk w kb tI #[x,y]) (a7:jE w (.agg #[x,y]) k) (P:∀r∈M,∀z∈r,Sm z) (Y:Sm k):
  CPq 182 #[A,A,.func (.func 183) #[] #[.pointer (some ⟨E,0,none⟩)]] w fun e w'=>
   e= .returned (.slice (some ⟨w.heap.size,0,none⟩) R R)/\(∃d,d.length=R/\qH w' w.heap.size (.slice (some ⟨w.heap.size,0,none⟩) R R) C d (genM R C (fun i j=>k*ent M i j)))/\BWq w w':=by
 obtain⟨ao,n,b5,rfl,q,D,e4,-⟩:=id h;obtain rfl:R=n:=by rw[<-q,hF.1]
 have a9:=fun a1=>mkR (R:Int) R rfl oM a1
 have J:=xgv hF;have HS:=xgv P;have HK:=xgv Y;obtain⟨G,o⟩:∃G:Nat->Nat->Int,(fun i j=>k*ent M i j)=G:=⟨_,rfl⟩;rw[o];have HG:jI (∀i j,G i j=k*ent M i j):=⟨fun i j=>by rw[<-o]⟩;clear hF P Y o q;go_enter Tryz.func182,Tryz.ntmps182;go_upto_region 2 with(fail)
 refine zF ?_;intro W0 Q;obtain⟨a2,c,b9⟩:=qJ Q;rw[zE7 R C]at c;clear Q a9;go_wp2;go_loopw [14] (fun I wr=>∃(i:Nat) (d:List Nat),i<=R/\I= .int .i64 i/\d.length=i/\BWq w wr/\Blk wr w.heap.size tR (zBO R C d)/\jI (d.Nodup/\∀t b,d[t]?=some b->w.heap.size<b/\jY wr b (yV C (G t)))) (fun I _=>R-(intOf I).toNat)
 case atStart=>exact⟨0,[],oM,rfl,rfl,a2,c,⟨⟨by simp,fun t b a=>by simp at a⟩⟩⟩
 obtain⟨i,d,hi,rfl,m,f,c,O⟩:=hrel;by_cases T:i<R
 .obtain⟨b1,o1,ra,rn,rc,p,rfl,b6,B,p1,s⟩:=(h.I f).row (k:=i) (by rw[J.out.1];exact T)
  have X:=J.out.2 p (xgd B);have b0:jI (yV C (fun j=>k*p.getD j 0)=yV C (G i)):=⟨yH fun j hj=>by rw[HG.out];unfold ent;rw[zB8 B]⟩;have SZ:jI (∀z∈p,Sm z):=⟨HS.out _ (xgd B)⟩;have K:=xgv X;have a6:=hk.I f;have a8:=a7.ext (lx f);have a5:=hf.I f;have lA:=c.lt;have b8:=zLK wr.heap.size C (yV C (G i));have c0:=f.size;clear B X;go_upto_region 5 with(fail)
  refine yA 13 [pcD 11 [] (zHV wr.heap.size C (yV C (G i)))] ?_;refine sRd ?_;refine sRc (fun wS hI Gk o=>?_) (fun b4 _=>?_)
  .go_simp
   refine(zTE _ _ p p k E kb C x y _ (s.I hI.bel) (s.I hI.bel) K.out K.out N (a5.I hI.bel) (a6.I hI.bel) (a8.ext (lx hI.bel)) SZ.out HK.out).mono ?_
   (rintro e wa ⟨v,rfl,⟨g,q,e2,D⟩,a4⟩;rw[b0.out]at D;have s:zHV wr.heap.size C (yV C (G i)) wa v:=⟨g,q,zD hI.bel.size e2,D⟩)
   exact⟨_,rfl,o _ _ s,a4⟩
  refine sRd ?_;refine sRe ?_;intro Z H a3;obtain⟨g,rfl,b7,S⟩:zHV wr.heap.size C (yV C (G i)) Z b4:=a3;have c:=c.I H;have f1:=c.frozen i;obtain⟨u,f2⟩:∃u,Z.cell? ⟨w.heap.size,i,none⟩=some u:=by
   rw[c.cell i];exact⟨_,Array.getElem?_eq_getElem (by rw[zDB oM];exact T)⟩
  have U:=c.set_ i (.slice (some ⟨g,0,none⟩) C C);rw[<-m,zGE oM,m]at U;have V:=c.lext dE i (.slice (some ⟨g,0,none⟩) C C);have a0:=xgv S;have l:=xgv O.out;clear p1 S;go_wp2;go_roundw
  case rel=>
   refine⟨i+1,d++ [g],oM,by simp,by simp[m],yB (nx f H) (xgf _) _ _,U,⟨⟨?_,?_⟩⟩⟩
   .rw[jG]
    refine⟨l.out.1,by simp,fun x hx y W=>?_⟩;simp at W;subst W;obtain⟨t,a,e⟩:=qZ hx;have:=(l.out.2 t x (by rw[xga a,e])).2.lt;omega
   intro t b a;by_cases e:t=i
   .subst e
    rw[List.getElem?_append_right oM,m]at a;simp at a;subst a;exact⟨oM,a0.out.old (qC _ _ _ _ _ oM) V⟩
   have b3:t<d.length:=by
    have h5:=(xge.1 a).1;simp at h5;omega
   rw[List.getElem?_append_left b3]at a;obtain⟨L,F⟩:=l.out.2 t b a;exact⟨L,(F.I H).old (qC _ _ _ _ _ oM) V⟩
  case measure=>exact meq
 obtain rfl:i=R:=oM;have l:=xgv O.out;go_wp2;go_ret;refine⟨rfl,⟨d,m,?_⟩,f⟩;exact qH.ofPart c m l.out.1 (fun t b a=>by
  obtain⟨L,F⟩:=l.out.2 t b a;have b2:t<i:=by have:=(xge.1 a).1;omega
  exact⟨oM,_,zDS i C G b2,by simp,F⟩) (by simp[genM]) (xgf _) N hR
abbrev tM:TypeId:=32
theorem Blk.six{a b c d e f:Value}(h:Blk w g t #[a,b,c,d,e,f]):
  w.cell? ⟨g,0,none⟩=some a/\w.cell? ⟨g,1,none⟩=some b/\w.cell? ⟨g,2,none⟩=some c/\w.cell? ⟨g,3,none⟩=some d/\w.cell? ⟨g,4,none⟩=some e/\w.cell? ⟨g,5,none⟩=some f:=
 ⟨h.cell 0,h.cell 1,h.cell 2,h.cell 3,h.cell 4,h.cell 5⟩
theorem zId(b:Nat)(c:Nat)(g d i f:Int)(y z:Value)(p q:List (List Int))(w:World)(P:Blk w b tM #[niq g,niq d,y,niq i,niq f,z])(hc:2<=c)(U:c<=9223372036854775807)
  (h1:zG3 w (.agg #[niq g,niq d,y]) g d p) (h2:zG3 w (.agg #[niq i,niq f,z]) i f q):
  CPq 97 #[slq b 2 c] w fun e w'=>e= .returned (.bool (decide (zBX g d p/\zBX i f q)))/\BWq w w':=by
 obtain⟨r,F⟩:∃r:Bool,decide (zBX g d p/\zBX i f q)=r:=⟨_,rfl⟩;rw[F];have B:=xgv F;obtain⟨o1,Y,W,rfl⟩:∃o n k,y= .slice o n k:=by
  obtain⟨A,e,N,n,O,rfl,-⟩:=h1;injection e with e
  simp only[Array.mk.injEq,List.cons.injEq]at e;exact⟨_,_,_,e.2.2.1⟩
 obtain⟨o2,Z,X,rfl⟩:∃o n k,z= .slice o n k:=by
  obtain⟨A,e,N,n,O,rfl,-⟩:=h2;injection e with e
  simp only[Array.mk.injEq,List.cons.injEq]at e;exact⟨_,_,_,e.2.2.1⟩
 clear F;go_enter Tryz.func97,Tryz.ntmps97;go_wp2;go_loopw [7] (fun G wr=>∃k:Nat,k<=2/\G=niq k/\BWq w wr/\jI ((0<k->zBX g d p)/\(1<k->zBX i f q))) (fun G _=>2-(intOf G).toNat)
 case atStart=>exact⟨0,oM,rfl,zC _ _,⟨⟨fun h=>oM,fun h=>oM⟩⟩⟩
 obtain⟨k,V,rfl,j,E⟩:=hrel;obtain⟨H,I,J,K,L,M⟩:=(P.I j).six;by_cases Q:k=0
 .subst Q
  go_upto_region 4 with(fail)
  refine zF ?_;intro D u;obtain⟨m,C,S⟩:=qJ u;have s:=C.three;clear H I J K L M u;go_wp2_with fail
  refine(zGZ _ g d p D ((h1.I j).I m)).mono ?_;rintro e T ⟨rfl,v⟩;by_cases a:zBX g d p
  .rw[zQ a]
   have l:=xgv a;clear a s;go_wp2;go_roundw
   case rel=>exact⟨1,oM,by simp,nx (nx j m) v,⟨⟨fun _=>l.out,fun h=>oM⟩⟩⟩
   case measure=>simp[intOf]
  rw[zT a];have l:=xgv a;clear a s;go_wp2;go_ret;refine⟨?_,nx (nx j m) v⟩;have t:r=false:=by rw[<-B.out];exact zT (fun x=>l.out (by first|exact x.1|exact x.2))
  rw[t];rfl
 by_cases R:k=1
 .subst R
  go_upto_region 4 with(fail)
  refine zF ?_;intro D u;obtain⟨m,C,S⟩:=qJ u;have s:=C.three;clear H I J K L M u;go_wp2_with fail
  refine(zGZ _ i f q D ((h2.I j).I m)).mono ?_;rintro e T ⟨rfl,v⟩;by_cases a:zBX i f q
  .rw[zQ a]
   have l:=xgv a;clear a s;go_wp2;go_roundw
   case rel=>exact⟨2,oM,by simp,nx (nx j m) v,⟨⟨fun _=>E.out.1 oM,fun _=>l.out⟩⟩⟩
   case measure=>simp[intOf]
  rw[zT a];have l:=xgv a;clear a s;go_wp2;go_ret;refine⟨?_,nx (nx j m) v⟩;have t:r=false:=by rw[<-B.out];exact zT (fun x=>l.out (by first|exact x.1|exact x.2))
  rw[t];rfl
 obtain rfl:k=2:=oM;go_wp2;go_ret;refine⟨?_,j⟩;have t:r=true:=by rw[<-B.out];exact zQ ⟨E.out.1 oM,E.out.2 oM⟩
 rw[t];rfl
abbrev tP:TypeId:=146
theorem Tryz.infoP:(Tryz.prog.info? tP).map (fun i=>(i.zero,i.size,i.bytes))=some (some (.agg #[niq 0,niq 0]),2,16):=by kernel_rfl
theorem qBT{w:World}{ops:Array Oper}{rest:List Oper}{a:Act}{Q:Exit->Act->World->Prop}(t:o.guard=none)(s x:Operand)
  (z:o.op= .call {callee:=.builtin .append,args:=#[s,x],argTypes:=#[145,145]})
  (base:Nat) (v:Value) (n:Nat) (xs:List Value) (B:a.eval s=v) (A:w.ownsRow base tP 2 v n xs) (b c:Nat) (f g:Int) (C:a.eval x=slq b 1 c)
  (q:Blk w b tP #[niq f,niq g]) (H:n+1<=1099511627776) (r:base<=w.heap.size)
  (h:∀e w',w'.ownsRow base tP 2 e (n+1) (xs++ [niq f,niq g])->w.grownBy w' v.ownBlock->wpList Tryz.prog ops Q rest (a.put o.dst e) w'):wpList Tryz.prog ops Q (o::rest) a w:=by
 obtain⟨G,y,D,E,F⟩:=info_parts Tryz.infoP;obtain⟨k,l,-,-⟩:=q.two;refine wpList_append_own w t s x 145 z base tP G _ 2 16 Tryz.underlying145 y D E F rfl oM v n xs B A ⟨b,0,none⟩ 1 c [niq f,niq g] C rfl ?_ ?_ (by simp[maxLen];omega) oM r ?_
 .intro j u d
  rw[zAg];match j with
  |0=>simp at d;subst d;exact k
  |1=>simp at d;subst d;exact l
  |j+2=>simp at d
 .intro u i
  simp at i;rcases i with rfl|rfl<;>rfl
 intro e w' m p _;exact h e w' m p
def zEs(z1 z2:Int):World->Value->Prop:=fun w v=>∃g cap cs,v=slq g 1 cap/\1<=cap/\cap<=9223372036854775807/\Blk w g tP cs/\cs[0]?=some (niq z1)/\cs[1]?=some (niq z2)
theorem zE0(i j:Int):zAj (zEs i j):=fun _ _ _ e ⟨g,a,cs,b,c,d,f,h⟩=>⟨g,a,cs,b,c,d,f.I e,h⟩
theorem zFT(b c:Nat)(R C:Int)(A:Value)(w:World)(M:Blk w b tM #[niq R,niq C,A])(K:∃o n k,A= .slice o n k)(hc:1<=c)(Y:c<=9223372036854775807):
  CPq 126 #[slq b 1 c] w fun e w'=>∃v,e= .returned v/\zEs R C w' v/\BWq w w':=by
 obtain⟨o1,n1,k1,rfl⟩:=K;go_enter Tryz.func126,Tryz.ntmps126;go_wp2;go_loopw [3,8] (fun u p wr=>∃k:Nat,k<=1/\p=niq k/\BWq w wr/\wr.ownsRow w.heap.size tP 2 u k (if k=0 then []else [niq R,niq C])) (fun _ p _=>1-(intOf p).toNat)
 case atStart=>exact⟨0,oM,rfl,zC _ _,zCR _ _ _ _⟩
 obtain⟨k,l,rfl,j,h⟩:=hrel;by_cases N:k=0
 .subst N
  rw[zB rfl]at h;obtain⟨y,z,B,D,E,F⟩:=(M.I j).three;go_upto_region 5 with(fail)
  refine zF ?_;intro d s;obtain⟨a,x,Z⟩:=qJ s;have T:=x.three;have O:=h.kept (row:=none) ⟨a.os,a.tape,a.output,a.size,fun k l _=>a.block k l⟩ (by cases S:u3.ownBlock<;>simp);have X:=(nx j a).size;clear y z B D E F s;have P:=O.kept (row:=none) (w':=d.alloc (.cells #[niq R,niq C] tP)) (by
   have f:BWq d (d.alloc (.cells #[niq R,niq C] tP)):=(zC _ _).alloc (xgf _) _;exact⟨f.os,f.tape,f.output,f.size,fun k l _=>f.block k l⟩) (by cases S:u3.ownBlock<;>simp)
  go_wp2_with (at_builtin;refine qBT rfl _ _ rfl w.heap.size u3 0 [] rfl P d.heap.size 1 R C rfl (yG _ _ _) oM (by simp;omega) ?_;intro v' w' Q m)
  have m:World.grownBy (d.alloc (.cells #[niq R,niq C] tP)) w' (Value.ownBlock u3):=m;have L:BWq w w':=((nx j a).alloc oM _).grown m (by simp;omega) (fun g t=>by
   rcases h.2 with⟨rfl,-⟩|⟨U,q,i,rfl,G,-⟩
   cases t;simp only[Value.ownBlock,Option.some.injEq]at t;omega)
  go_roundw
  case rel=>exact⟨1,oM,by simp,L,by rw[if_neg oM];simpa using Q⟩
  case measure=>simp[intOf]
 obtain rfl:k=1:=oM;rw[zA oM]at h;go_wp2;go_ret;refine⟨_,rfl,?_,j⟩;rcases h.2 with⟨-,V⟩|⟨g,q,i,rfl,G,H,I,J,W,r⟩
 omega;refine⟨g,q,i,rfl,I,J,H,?_,?_⟩
 .have:(i.toList.take 2)[0]?=some (niq R):=by rw[r];rfl
  rw[List.getElem?_take_of_lt oM]at this;simpa using this
 have:(i.toList.take 2)[1]?=some (niq C):=by rw[r];rfl
 rw[List.getElem?_take_of_lt oM]at this;simpa using this
def zOU(w:World)(v:Value)(r:Nat)(ρ κ:Nat->Nat):Prop:=
 ∃ao cap,v= .slice ao r cap/\r<=cap/\cap<=9223372036854775807/\(0<r->∃b cs,ao=some ⟨b,0,none⟩/\Blk w b zEc cs/\∀k,k<r->cs[k*2]?=some (niq (ρ k))/\cs[k*2+1]?=some (niq (κ k)))
theorem zOU.old(h:zOU w v r ρ κ)(j:∀b,v.ownBlock=some b->b<w.heap.size->w'.heap[b]?=w.heap[b]?):zOU w' v r ρ κ:=by
 obtain⟨c,d,rfl,e,f,g⟩:=h;refine⟨c,d,rfl,e,f,fun k=>?_⟩;obtain⟨b,cs,rfl,a,i⟩:=g k;exact⟨b,cs,rfl,(j b rfl a.lt).trans a,i⟩
theorem zOU.I(h:zOU w v r ρ κ)(a:BWq w w'):zOU w' v r ρ κ:=h.old fun b _ c=>a.block b c
theorem zOU.onlyZ(h:zOU w v r ρ κ)(d:qK Z w w')(e:∀b,v.ownBlock=some b->¬ Z b):zOU w' v r ρ κ:=h.old fun b a c=>d.old b c (e b a)
theorem zOU.cell{b o g:Nat}(h:zOU w (.slice (some ⟨b,o,none⟩) r g) r ρ κ)(p:k<r):o=0/\b<w.heap.size/\w.cell? ⟨b,k*2,none⟩=some (niq (ρ k))/\w.cell? ⟨b,k*2+1,none⟩=some (niq (κ k)):=by
 obtain⟨q,t,e,x,y,m⟩:=h;obtain⟨s,cs,i,c,n⟩:=m oM;injection e with a u v
 rw[i]at a;injection a with a
 injection a with j l
 subst j;obtain⟨d,f⟩:=n k p;exact⟨l,c.lt,c.cell _ ▸ d,c.cell _ ▸ f⟩
def zIT(B n Cs Ct:Nat)(ρ κ:Nat->Nat)(i:Nat):Nat->Nat->Bst->Option Bst
 |0,_,x=>some x
 |m+1,j,x=>
  if x.s (ρ i) (κ j)=0 then zIT B n Cs Ct ρ κ i m (j+1) x
  else if x.s (ρ j) (κ j)=0 then none
  else if x.s (ρ i) (κ j)/x.s (ρ j) (κ j)=0 then zIT B n Cs Ct ρ κ i m (j+1) x
  else if zEn B n Cs Ct x (ρ i) (ρ j) (-(x.s (ρ i) (κ j)/x.s (ρ j) (κ j)))then zIT B n Cs Ct ρ κ i m (j+1) (x.add (ρ i) (ρ j) (-(x.s (ρ i) (κ j)/x.s (ρ j) (κ j))))
  else none
def zKt(B n Cs Ct:Nat)(ρ κ:Nat->Nat)(r:Nat):Nat->Bst->Option Bst
 |0,x=>some x
 |i+1,x=>(zIT B n Cs Ct ρ κ i (r-(i+1)) (i+1) x).bind (zKt B n Cs Ct ρ κ r i)
theorem zHD{e0:Bool}{B:Nat}(hB:BSd B){E Cs Ct:Nat}{Ah pv:Value}{x y:Bst}(h:zEV e0 Z w E Ah n Cs Ct x)(W:okB B n Cs Ct x)(hp:zOU w pv r ρ κ)(d2:∀b,pv.ownBlock=some b->¬ Z b)
  (d8:∀k,k<r->ρ k<n) (c6:∀i j,i<j->j<r->ρ i≠ρ j) (d7:∀k,k<r->κ k<Cs) (hn:n<=1000000) (f7:Cs<=1000000) (f8:Ct<=1000000) (i6:r<=n) (hZ:∀b,Z b->b<w.heap.size) (g6:0<n)
  (hy:zKt B n Cs Ct ρ κ r r x=some y):
  CPq 178 #[Ah,pv,.agg (zE3 E)] w fun e w'=>(∃u,e= .returned u)/\qK Z w w'/\zEV e0 Z w' E Ah n Cs Ct y/\okB B n Cs Ct y:=by
 obtain⟨f6,a6,-⟩:=h.wri;obtain⟨so,sn,e6,rfl,s1,-⟩:=id (qH.rows a6);have e2:n=sn:=by rw[<-s1];simp[genM]
 subst e2;obtain⟨g,_,rfl,-⟩:=qH.at_ a6 (i:=0) (by rw[a6.len];exact g6);obtain⟨ao,a8,rfl,i4,i5,-⟩:=id hp;have HY:=xgv (And.intro W hy);have l:=xgv hp;have f5:=xgv d2;have c0:=xgv d8;have f1:=xgv c6;have f2:=xgv d7;have g7:0<r->∃pb,ao=some ⟨pb,0,none⟩:=fun X=>by
  obtain⟨h2,h6,e,-,-,h4⟩:=hp;obtain⟨b,cs,e1,-⟩:=h4 X;injection e with e2
  exact⟨b,e2.trans e1⟩
 clear s1 a6 f6 W hy hp d2 d8 c6 d7;go_enter Tryz.func178,Tryz.ntmps178;go_upto_region 1 with(fail)
 refine zF ?_;intro W0 c2;obtain⟨b0,f,H⟩:=qJ c2;have f:Blk W0 w.heap.size 167 (zE3 E):=f;have o:=qK.of Z b0;have m:=h.I b0;have l:=xgv (l.out.I b0);clear c2 h;go_wp2;go_loopw [6] (fun tv wr=>∃(i:Nat) (a0:Int) (P:Bst),tv=niq a0/\a0=(i:Int)-1/\i<=r/\qK Z w wr/\Blk wr w.heap.size 167 (zE3 E)/\jI (zOU wr (.slice ao r a8) r ρ κ)/\zEV e0 Z wr E (slq g n e6) n Cs Ct P/\jI (okB B n Cs Ct P/\zKt B n Cs Ct ρ κ r i P=some y)) (fun tv _=>(intOf tv+1).toNat)
 case atStart=>exact⟨r,(r:Int)-1,x,by simp,rfl,xgf _,o,f,l,m,HY⟩
 obtain⟨i,a0,P,rfl,d6,hi,o,f,l,m,t⟩:=hrel;cases i with
 |zero=>
  obtain rfl:a0=-1:=oM;clear d6;have a:=t.out.2;unfold zKt at a;injection a with a
  have q:=xgv a;clear a;go_wp2;exact bodyPost_end (results_none rfl _ _ _) rfl ⟨⟨_,rfl⟩,o,by rw[<-q.out];exact m,by rw[<-q.out];exact t.out.1⟩
 | succ i=>
  obtain rfl:a0=(i:Int):=oM;clear d6;have a:=t.out.2;unfold zKt at a;rw[zAW]at a;obtain⟨y1,h4,h5⟩:=a;have HR:=xgv h5;have R:=xgv (And.intro t.out.1 h4);clear h4 h5 t;obtain⟨pb,rfl⟩:=g7 oM;obtain⟨-,e3,k1,-⟩:=l.out.cell (k:=i) oM;have i9:IntKind.i64.wrap ((i:Int)+1)=(i:Int)+1:=yC _ oM;obtain⟨M,hM⟩:∃M,r-(i+1)=M:=⟨_,rfl⟩;by_cases h9:a8=i+1
  .have f9:M=0:=oM
   have c7:(i:Int)+1<=(r:Int):=oM;subst f9;go_wp2;try rw[hM]
   go_loopw [30] (fun uv wt=>uv=niq 0/\wt=wr) (fun _ _=>0)
   case atStart=>exact⟨rfl,rfl⟩
   rename World=>wt
   obtain⟨rfl,b7⟩:=hrel;have b7:=b7.symm;subst b7;have a:=R.out.2;rw[hM]at a;unfold zIT at a;injection a with a
   have q:=xgv a;clear a;go_wp2;go_roundw
   case rel=>exact⟨i,(i:Int)-1,P,by simp,rfl,oM,o,f,l,m,⟨⟨R.out.1,by rw[q.out];exact HR.out⟩⟩⟩
   case measure=>simp[intOf]
  go_wp2;try rw[hM]
  go_loopw [30] (fun uv wt=>∃(u:Nat) (d:Bst),uv=niq u/\u<=M/\qK Z w wt/\Blk wt w.heap.size 167 (zE3 E)/\jI (zOU wt (slq pb r a8) r ρ κ)/\zEV e0 Z wt E (slq g n e6) n Cs Ct d/\jI (okB B n Cs Ct d/\zIT B n Cs Ct ρ κ i (M-u) (i+1+u) d=some y1)) (fun uv _=>M-(intOf uv).toNat)
  case atStart=>exact⟨0,P,rfl,oM,o,f,l,m,⟨⟨R.out.1,by rw[<-hM];exact R.out.2⟩⟩⟩
  rename World=>wt
  clear o f l m R k1 e3;obtain⟨u,d,rfl,i8,o,f,l,m,t⟩:=hrel;by_cases i3:u<M
  .obtain⟨j,hj⟩:∃j,j=i+1+u:=⟨_,rfl⟩
   obtain⟨b8,hm⟩:∃b8,M-u=b8+1:=⟨M-u-1,oM⟩;have b5:M-(u+1)=b8:=oM;have b3:i+1+(u+1)=j+1:=oM;have a:=t.out.2;rw[hm,<-hj]at a;unfold zIT at a;have F:=xgv t.out.1;have q:=xgv a;obtain⟨-,e3,C,D⟩:=l.out.cell (k:=j) oM;have c8:j*2=(i+1)*2+u*2:=oM;rw[c8]at C D;have b4:j<r:=oM;have c7:i<r:=oM;have K:=f2.out j b4;have V:=c0.out i c7;have a5:=c0.out j b4;have b6:=f1.out i j oM b4;obtain⟨p,d3⟩:∃p,ρ i=p:=⟨_,rfl⟩;obtain⟨s,d4⟩:∃s,ρ j=s:=⟨_,rfl⟩;obtain⟨c,hc⟩:∃c,κ j=c:=⟨_,rfl⟩;rw[d3]at V b6 q ⊢
   rw[d4]at a5 b6 q C;rw[hc]at K q D;clear a t hj c8 d3 d4 hc;go_upto_region 8 with(fail)
   refine zF ?_;intro W7 c3;obtain⟨a2,z,i7⟩:=qJ c3;have z:Blk W7 wt.heap.size zEc #[niq s,niq c]:=z;have o:=o.trans (qK.of Z a2);have f:=f.I a2;have l:=xgv (l.out.I a2);have m:=m.I a2;have k3:=o.bel.size;have k4:=f.lt;clear c3 C D;obtain⟨bi,o1,N,lg⟩:=m.row (i:=p) V;obtain⟨xs,xa,xl,xc,v1,v2,-,-,t⟩:=N.cell (yO K);obtain⟨C,D,Y,p4⟩:=z.two;have l1:=N.lt;have l9:=z.lt;refine yA 8 [] ?_;refine sRd ?_;refine sRf ?_;intro w8 c5;go_wp2_with fail
   refine(zAw _ (d.s p c) _ (t.ext (lx c5)).J).mono ?_;rintro e w1 ⟨rfl,g1⟩;have T:=nx c5 g1;have m:=m.I T;have f:=f.I T;have z:=z.I T;have l:=xgv (l.out.I T);have o:=o.trans (qK.of Z T);have a:=q.out;clear o1 N v1 v2 t q C D Y p4;by_cases H:d.s p c=0
   .rw[zB H]at a
    rw[zBL H];have q:=xgv a;clear a H;go_wp2;go_roundw
    case rel=>exact⟨u+1,d,by simp,oM,o,f,l,m,⟨⟨F.out,by rw[b5,b3];exact q.out⟩⟩⟩
    case measure=>exact meq
   rw[zA H]at a;by_cases a4:d.s s c=0
   .rw[zB a4]at a
    cases a
   rw[zA a4]at a;have g4:=zCm H;obtain⟨k0,c9⟩:∃k0,zAv (d.s p c) 0=k0:=⟨_,rfl⟩;rw[c9]at g4 ⊢
   have f3:=xgv a4;have q:=xgv a;have SX:jI (Sm (d.s p c)):=⟨hB.bsm.sm _ (F.out.1 p V c K)⟩;have SY:jI (Sm (d.s s c)):=⟨hB.bsm.sm _ (F.out.1 s a5 c K)⟩;clear a a4 H c9;obtain⟨bi,o1,N,lg⟩:=m.row (i:=p) V;obtain⟨bk,o2,d5,-⟩:=m.row (i:=s) a5;obtain⟨xs,xa,xl,xc,v1,v2,-,-,t⟩:=N.cell (yO K);obtain⟨ys,ya,yl,yc,r1,r2,-,-,hy⟩:=d5.cell (yO K);obtain⟨C,D,Y,p4⟩:=z.two;have i0:=zML (d.s p c) (d.s s c);have l9:=z.lt;have l5:=f.lt;have l1:=N.lt;have l2:=d5.lt;go_upto_region 9 with(fail)
   refine zBP [pcD 17 [] (DMV (d.s p c) (d.s s c)),pcD 18 [17] (DMV (d.s p c) (d.s s c)),pcD 19 [18] (fun w v=>jE w v (d.s p c/d.s s c)),pcD 20 [18] (fun w v=>jE w v (d.s p c%d.s s c)),pcD 21 [18] (fun _ v=>v=niq 0),pbA 22 43 2,pbA 23 43 2,pbS 24 22 43 2,pbS 25 23 43 2] ?_;refine sRd ?_;refine sRc (fun wS hI Q A=>by go_simp;exact ck A (zL9 _ _ (d.s p c) (d.s s c) _ (t.ext hI.lext).J (hy.ext hI.lext).J SX.out SY.out f3.out)) (fun k7 _=>?_);refine sRc (fun wS hI c4 Q A=>?_) (fun k8 _=>?_)
   .go_simp
    exact⟨A _ _ c4,zC _ _⟩
   refine sRc (fun wS hI J Q A=>?_) (fun k9 I=>?_)
   .obtain⟨e5,r,rfl,hq,X⟩:=J
    go_simp;exact⟨A _ _ hq,zC _ _⟩
   obtain⟨e7,e9,rfl,h0⟩:=zJD I;clear I;refine sRc (fun wS hI J Q A=>?_) (fun l3 I=>?_)
   .obtain⟨e5,r,rfl,hq,X⟩:=J
    go_simp;exact⟨A _ _ X,zC _ _⟩
   obtain⟨e8,f0,rfl,h1⟩:=zJD I;clear I;refine sRc (fun wS hI J Q A=>?_) (fun _ I=>?_)
   .obtain⟨e5,r,rfl,hq,X⟩:=J
    go_simp;exact⟨A _ _ rfl,zC _ _⟩
   obtain⟨_,-,rfl⟩:=I;refine sRa (cs:=#[.bool false,.slice none 0 0]) fun a9 h7=>?_
   refine sRa (cs:=#[.bool false,.slice none 0 0]) fun a1 h8=>?_
   refine sRs a9 (.agg #[e7,e9]) ?_ h0;refine sRs a1 (.agg #[e8,f0]) ?_ h1;refine sRd ?_;refine sRb ?_;simp only[FA,FC,FN,ptr,List.nil_append,List.cons_append,Act.put,xgh,xgi,xgj];intro w9 U c4 J g2 g3 _ O d9 e4 g9;replace O:Blk w9 a9 43 #[e7,e9]:=O _ rfl;have a7:=g2;replace d9:Blk w9 a1 43 #[e8,f0]:=d9 _ rfl;have k2:=g3;have k5:a9≠a1:=e4 (23,a1) sI;clear e4 g9;obtain⟨qs,qa,ql,qc,rfl,rfl⟩:=a7.two;have m:=m.I U;have f:=f.I U;have z:=z.I U;have l:=xgv (l.out.I U);have o:=o.trans (qK.of Z U);have lq:=O.lt;clear o1 o2 v1 v2 r1 r2 C D Y p4;have d1:=O.two;go_wp2_with fail
   refine(zAw _ (d.s p c/d.s s c) _ a7.J).mono ?_;rintro e l6 ⟨rfl,G⟩;have m:=m.I G;have f:=f.I G;have z:=z.I G;have l:=xgv (l.out.I G);have o:=o.trans (qK.of Z G);have kq:=O.I G;have iq:=a7.ext (lx G);have a:=q.out;clear d1 q O a7;by_cases L:d.s p c/d.s s c=0
   .rw[zB L]at a
    rw[zBL L];have q:=xgv a;clear a L;go_wp2;go_roundw
    case rel=>exact⟨u+1,d,by simp,oM,o,f,l,m,⟨⟨F.out,by rw[b5,b3];exact q.out⟩⟩⟩
    case measure=>exact meq
   rw[zA L]at a;by_cases S:zEn B n Cs Ct d p s (-(d.s p c/d.s s c))
   .rw[zB S]at a
    have g5:=zCm L;obtain⟨k1,d0⟩:∃k1,zAv (d.s p c/d.s s c) 0=k1:=⟨_,rfl⟩;rw[d0]at g5 ⊢
    have q:=xgv a;have b9:=xgv S;have SQ:jI (Sm (d.s p c/d.s s c)):=⟨hB.bsm.sm _ (by have:=S.1;rwa[zY]at this)⟩;clear a S L d0;have c1:=f.three;have d1:=kq.two;obtain⟨C,D,Y,p4⟩:=z.two;have lq:=kq.lt;have l0:=f.lt;have l9:=z.lt;go_upto_region 11 with(fail)
    refine yA 7 [pcI 6 (-(d.s p c/d.s s c))] ?_;refine sRd ?_;refine sRc (fun wS hI Q A=>by go_simp;exact ck A (zBk _ (d.s p c/d.s s c) _ (iq.ext hI.lext).J SQ.out)) (fun l4 _=>?_);refine sRe ?_;intro l7 a3 g8;have m:=m.I a3;have f:=f.I a3;have l:=xgv (l.out.I a3);have o:=o.trans (qK.of Z a3);clear c1 d1 C D Y p4;go_wp2_with fail
    refine(qA6 hB.bsm m F.out V a5 b6 g8 hn f7 f8 b9.out).mono ?_;rintro e l8 ⟨⟨k6,rfl⟩,b2,m⟩;have W:=b9.out.ok;have o:=o.trans b2;have f:=b2.blk f (fun hh=>by have:=hZ _ hh;omega);have l:=xgv (l.out.onlyZ b2 f5.out);have f4:=xgv W;clear W;go_wp2;go_roundw
    case rel=>exact⟨u+1,_,by simp,oM,o,f,l,m,⟨⟨f4.out,by rw[b5,b3];exact q.out⟩⟩⟩
    case measure=>exact meq
   rw[zA S]at a;cases a
  obtain rfl:u=M:=oM;have a:=t.out.2;rw[zAL]at a;unfold zIT at a;injection a with a
  have q:=xgv a;have F:=xgv t.out.1;clear a t;go_wp2;go_roundw
  case rel=>exact⟨i,(i:Int)-1,d,by simp,rfl,oM,o,f,l,m,⟨⟨F.out,by rw[q.out];exact HR.out⟩⟩⟩
  case measure=>simp[intOf]
theorem Tryz.infoPiv:(Tryz.prog.info? zEc).map (fun i=>(i.zero,i.size,i.bytes))=some (some (.agg #[niq 0,niq 0]),2,16):=by kernel_rfl
def pc(L:List (Nat × Nat)):List Value:=L.flatMap fun p=>[niq (p.1:Nat),niq (p.2:Nat)]
theorem zUA:pc []= []:=rfl
theorem zIR(p:Nat × Nat)(L:List (Nat × Nat)):pc (p::L)=niq (p.1:Nat)::niq (p.2:Nat)::pc L:=rfl
theorem zT8(L M:List (Nat × Nat)):pc (L++M)=pc L++pc M:=by unfold pc;rw[List.flatMap_append]
theorem zKH(L:List (Nat × Nat)):(pc L).length=L.length*2:=by
 induction L with
 |nil=>rfl
 |cons p L a=>rw[zIR];simp[a];omega
theorem zUB(L:List (Nat × Nat))(k:Nat):(pc L).take (k*2)=pc (L.take k):=by
 induction L generalizing k with
 |nil=>simp[zUA]
 |cons p L a=>
  cases k with
  |zero=>simp[zUA]
  |succ k=>rw[zCv,zIR,zIR,show(k+1)*2=k*2+1+1 by omega,zCv,zCv,a]
theorem zT9(L:List (Nat × Nat))(k:Nat):(pc L).drop (k*2)=pc (L.drop k):=by
 induction L generalizing k with
 |nil=>simp[zUA]
 |cons p L a=>
  cases k with
  |zero=>simp
  |succ k=>rw[xgl,zIR,show(k+1)*2=k*2+1+1 by omega,xgl,xgl,a]
theorem zZy{L:List (Nat × Nat)}{p:Nat × Nat}(h:L[k]?=some p):(pc L)[k*2]?=some (niq (p.1:Nat))/\(pc L)[k*2+1]?=some (niq (p.2:Nat)):=by
 induction L generalizing k with
 |nil=>simp at h
 | cons q L c=>
  cases k with
  |zero=>simp at h;subst h;exact⟨rfl,rfl⟩
  |succ k=>
   rw[List.getElem?_cons_succ]at h;obtain⟨a,b⟩:=c h;rw[zIR,show(k+1)*2=k*2+1+1 by omega];exact⟨a,b⟩
theorem zQV(L:List (Nat × Nat)):∀u∈pc L,u.oneCell'=true:=by
 induction L with
 |nil=>intro u hu;cases hu
 |cons p L a=>
  intro u hu;rw[zIR]at hu;rcases List.mem_cons.1 hu with rfl|hu
  rfl;rcases List.mem_cons.1 hu with rfl|hu
  rfl;exact a u hu
def zIj(w:World)(base:Nat)(v:Value)(L:List (Nat × Nat)):Prop:=w.ownsRow base zEc 2 v L.length (pc L)
theorem zIj.piv{L:List (Nat × Nat)}(h:zIj w base v L):zOU w v L.length (fun k=>(L.getD k (0,0)).1) (fun k=>(L.getD k (0,0)).2):=by
 rcases h.2 with⟨rfl,f⟩|⟨g,e,c,rfl,p,l,m,n,q,o⟩
 exact⟨none,0,by rw[f],oM,oM,fun h=>oM⟩;refine⟨_,e,rfl,m,n,fun _=>⟨g,c,rfl,l,fun k j=>?_⟩⟩;have d:=xga j;obtain⟨a,b⟩:=zZy d;have i:L.getD k (0,0)=L[k]:=by rw[xgb,d];rfl
 show c[k*2]?=some (Value.int .i64 (((L.getD k (0,0)).1:Nat):Int))/\c[k*2+1]?=some (Value.int .i64 (((L.getD k (0,0)).2:Nat):Int));rw[i];rw[<-o,List.getElem?_take]at a b;constructor
 .split at a
  .simpa using a
  cases a
 split at b;simpa using b;cases b
theorem zIj.I{L:List (Nat × Nat)}(h:zIj w base v L)(a:BWq w w'):zIj w' base v L:=
 World.ownsRow.kept h (row:=none) ⟨a.os,a.tape,a.output,a.size,fun k b _=>a.block k b⟩ (by cases c:v.ownBlock<;>simp)
theorem zIj.own{L:List (Nat × Nat)}(h:zIj w base v L):∀g,v.ownBlock=some g->base<=g/\g<w.heap.size:=zDa h
theorem zIj.old{L:List (Nat × Nat)}(h:zIj w base v L)(e:∀g,v.ownBlock=some g->w'.heap[g]?=w.heap[g]?):zIj w' base v L:=by
 obtain⟨d,a⟩:=h;refine⟨d,?_⟩;rcases a with a|⟨g,b,c,rfl,f,i,r⟩
 exact .inl a;exact .inr ⟨g,b,c,rfl,f,(e g rfl).trans i,r⟩
theorem zIj.nil(w:World)(base:Nat):zIj w base (.slice none 0 0) []:=⟨rfl,.inl ⟨rfl,rfl⟩⟩
theorem zGe{w:World}{ops:Array Oper}{rest:List Oper}{a:Act}{Q:Exit->Act->World->Prop}(e:o.guard=none)(d s:Operand)(t b:TypeId)
  (f:o.op= .call {callee:=.builtin .copy,args:=#[d,s],argTypes:=#[t,b]}) (v u:Value) (hd:a.eval d=v) (i:a.eval s=u) {c:Value} {w':World}
  (g:(Builtin.copy_ #[t,b] o.type #[v,u]).run Tryz.prog w= .ok c w') (h:wpList Tryz.prog ops Q rest (a.put o.dst c) w'):wpList Tryz.prog ops Q (o::rest) a w:=by
 refine wpList_plain e fun K hK=>?_
 unfold Oper.wp execOp;simp only[f,resolve,invoke,builtin,Sem.run_bind,Sem.run_pure,Result.andThen_ok,List.map_toArray,List.map_cons,List.map_nil,hd,i,g];exact hK _ _ h
theorem zH4(w:World)(s:TypeId)(g o c e:Nat)(a:Addr)(d r:Nat)(b:Array Value)(t:TypeId)(cs:List Value)
  (h:w.heap[g]?=some (.cells b t (0,0))) (l:cs.length=Nat.min d c*2)
  (m:∀j v,cs[j]?=some v->w.cell? (a.add j)=some v) (f:o+cs.length<=b.size) (h1:∀v∈cs,v.oneCell'=true):
  ∃v,(Builtin.copy_ #[163,163] s #[.slice (some ⟨g,o,none⟩) c e,.slice (some a) d r]).run Tryz.prog w=
   .ok v (w.setRow g (b.toList.take o++cs++b.toList.drop (o+cs.length)).toArray):=by
 obtain⟨y,i,u,q,x⟩:=info_parts Tryz.infoPiv;have k:=run_loadCells_list (P:=Tryz.prog) w a cs m;have n:=run_storeCells_at Tryz.prog g o t cs 0 b w h (by simpa using f) h1;have p:=zBi;refine⟨goInt (Nat.min d c),?_⟩;simp[Builtin.copy_,run_underlying p,Builtin.lenOf,Builtin.firstCells,sizeOf,typeInfo,i,q,<-l,k,n]
theorem zWN(f:Blk w g t cs)(i:t≠tU)(hbel:Below 0 w w')(c:∀k,k≠g->w'.heap[k]?=w.heap[k]?):zB0 [g] w w':=
 ⟨hbel,fun b j l a=>(c b (by
  rintro rfl
  have d:w.heap[b]?=some (.cells cs t (0,0)):=f
  rw[d]at a
  injection a with a
  injection a with _ e
  exact i e)).trans a,fun k _ h=>c k (by simpa using h)⟩
theorem zEu(w:World)(g:Nat)(cs:Array Value):Below 0 w (w.setRow g cs):=⟨rfl,rfl,rfl,by unfold World.setRow;simp,fun k a=>oM⟩
theorem zN0(h:Blk w g t cs):w.shape? g=some (t,cs.size):=by
 have a:w.heap[g]?=some (.cells cs t (0,0)):=h;unfold World.shape?;rw[a]
theorem zLA{o:Nat}(h:Blk w g t cs):w.frozen? ⟨g,o,none⟩=false:=by
 have a:w.heap[g]?=some (.cells cs t (0,0)):=h;unfold World.frozen?;rw[a];simp
theorem zTZ{a:List Value}{L:List (Nat × Nat)}(d:L.length=n)(i:k<=n)(hc:a.take (n*2)=pc L)(j:n*2+2<=a.length)(r c:Nat):
  (((a.take ((k+1)*2)++pc (L.drop k)++a.drop ((k+1)*2+(pc (L.drop k)).length)).take (k*2)++pc [(r,c)]++(a.take ((k+1)*2)++pc (L.drop k)++a.drop ((k+1)*2+(pc (L.drop k)).length)).drop (k*2+(pc [(r,c)]).length)).take ((n+1)*2))=pc (L.take k++(r,c)::L.drop k):=by
 have e:(pc (L.drop k)).length=(n-k)*2:=by rw[zKH,zBe,d]
 have b:(pc [(r,c)]).length=2:=rfl;have l:(a.take ((k+1)*2)).length=(k+1)*2:=by rw[qR];omega
 have g:(a.take ((k+1)*2)++pc (L.drop k)++a.drop ((k+1)*2+(pc (L.drop k)).length)).take (k*2)=pc (L.take k):=by
  rw[zAu,zAf oM,zD2,zA6 oM,<-zUB,<-hc,zD2,zA6 oM]
 have h:(a.take ((k+1)*2)++pc (L.drop k)++a.drop ((k+1)*2+(pc (L.drop k)).length)).drop (k*2+(pc [(r,c)]).length)=pc (L.drop k)++a.drop ((k+1)*2+(pc (L.drop k)).length):=by
  rw[zAu,List.drop_append_of_le_length oM,b,qP oM,zCD]
 rw[g,h,zT8,show pc ((r,c)::L.drop k)=pc [(r,c)]++pc (L.drop k) from rfl,<-zAu,<-zAu];have f:(pc (L.take k)++pc [(r,c)]++pc (L.drop k)).length=(n+1)*2:=by
  rw[zAY,zAY,e,b,zKH,qR];omega
 rw[<-f,zDA]
theorem zLH(base:Nat)(v:Value)(L:List (Nat × Nat))(k r c l:Nat)(w:World)(h:zIj w base v L)(p:k<=L.length)(B:Blk w l zEc #[.int .i64 r,.int .i64 c])(b4:∀g,v.ownBlock=some g->g≠l)(hb:base<=w.heap.size)(hL:L.length<=1000000):
  CPq 177 #[v,.int .i64 k,.slice (some ⟨l,0,none⟩) 1 1] w fun e w'=>∃q,e= .returned q/\zIj w' base q (L.take k++(r,c)::L.drop k)/\zB0 v.ownBlock.toList w w':=by
 obtain⟨U,Q,a9,S,T⟩:=info_parts Tryz.infoPiv;have a8:=h;obtain⟨c0,c1,-,-⟩:=B.two;have b5:∀(j:Nat) (u:Value),[Value.int .i64 (r:Nat),Value.int .i64 (c:Nat)][j]?=some u->w.cell? ((⟨l,0,none⟩:Addr).add j)=some u:=by
  intro j u b;rw[zAg];match j with
  |0=>simp at b;subst b;exact c0
  |1=>simp at b;subst b;exact c1
  |j+2=>simp at b
 have b6:∀u∈ [Value.int .i64 (r:Nat),Value.int .i64 (c:Nat)],u.oneCell'=true:=by
  intro u hu;simp at hu;rcases hu with rfl|rfl<;>rfl
 have b2:∀q w',w'.ownsRow base zEc 2 q (L.length+1) (pc L++ [.int .i64 (r:Nat),.int .i64 (c:Nat)])->w.grownBy w' v.ownBlock->k=L.length->zIj w' base q (L.take k++(r,c)::L.drop k)/\zB0 v.ownBlock.toList w w':=fun q w' I C K=>by
  subst K;refine⟨?_,zRs C (zEf a8 dE C)⟩;unfold zIj;rw[jO,List.drop_length,zT8,zAY];exact I
 rcases h.2 with⟨rfl,h0⟩|⟨g,a,x,rfl,k1,k2,k3,k4,k5,H⟩
 .obtain rfl:k=0:=oM
  have d4:L= []:=qL h0;subst d4;go_enter Tryz.func177,Tryz.ntmps177;go_wp2_with (at_builtin;refine wpList_append_own w rfl _ _ 163 rfl base zEc U _ 2 16 zBi Q a9 S T rfl oM (.slice none 0 0) 0 (pc []) rfl a8 ⟨l,0,none⟩ 1 1 [.int .i64 (r:Nat),.int .i64 (c:Nat)] rfl rfl b5 b6 (by simp[maxLen]) oM hb ?_;intro q w' I C _)
  go_ret;exact⟨_,rfl,b2 _ _ I C rfl⟩
 have e2:a<=9223372036854775807:=k4;by_cases K:k=L.length
 .obtain⟨n,A⟩:∃n,L.length=n:=⟨_,rfl⟩
  rw[A]at K p hL a8 k3 H ⊢
  subst K;by_cases c7:a=k;all_goals
   go_enter Tryz.func177,Tryz.ntmps177;go_wp2_with (at_builtin;refine wpList_append_own w rfl _ _ 163 rfl base zEc U _ 2 16 zBi Q a9 S T rfl oM (.slice (some ⟨g,0,none⟩) k a) k (pc L) rfl (A ▸ h) ⟨l,0,none⟩ 1 1 [.int .i64 (r:Nat),.int .i64 (c:Nat)] rfl rfl b5 b6 (by simp[maxLen];omega) oM hb ?_;intro q w' I C _)
   go_ret;exact⟨_,rfl,b2 _ _ (A ▸ I) C A.symm⟩
 have d2:k<L.length:=oM;obtain⟨n,A⟩:∃n,L.length=n:=⟨_,rfl⟩;have t:=xgw A;rw[A]at K p hL k3 H d2 ⊢
 have c7:¬ a=k:=oM;have e4:((k:Int)==(n:Int))=false:=by simp;omega
 have e6:IntKind.i64.wrap ((n:Int)+1)=(n:Int)+1:=yC _ oM;have e7:IntKind.i64.wrap ((k:Int)+1)=(k:Int)+1:=yC _ oM;have z:(pc (L.drop k)).length=(n-k)*2:=by rw[zKH,zBe,t.out]
 by_cases e5:n+1<=a
 .have c8:¬ a=k+1:=oM
  have d5:¬ ((a:Int)<(n:Int)+1):=oM;have d3:(k:Int)<=(n:Int)+1:=oM;have a7:g≠l:=b4 g rfl;have E:Blk w g zEc x:=k2;have d9:∀w:World,(sizeOf zEc).run Tryz.prog w= .ok 2 w:=fun w=>by simp[sizeOf,typeInfo,Q,S]
  have d7:∀lb W,(callFunc 197 #[.slice (some ⟨l,0,none⟩) 1 1,.slice (some ⟨g,(k+1)*2,none⟩) lb W]).run Tryz.prog w= .ok (.value (.bool false)) w:=fun lb W=>by
   rw[run_callFunc_extern Tryz.func197 kR kR kR (e:=Extern.SlicesOverlaps.overlaps #[163,163] #[4]) kR,
    Lib.run_overlaps_apart w 163 4 zEc zBi 2 d9 ⟨l,0,none⟩ ⟨g,(k+1)*2,none⟩ 1 1 lb W (qF a7) zEc zEc 2 x.size (zN0 B) (zN0 E) oM (zLA B) (zLA B)]
   rfl
  go_enter Tryz.func177,Tryz.ntmps177;go_upto_region 15 with(simp only[d7])
  have c9:(0:Int)<=(k:Int)+1:=oM;refine yA 8 [] ?_;refine sRd ?_;refine sRf ?_;intro s a4;have y:=E.I a4;have a3:=B.I a4;obtain⟨v1,b7⟩:=zH4 s 3 g ((k+1)*2) (n-k) (a-(k+1)) ⟨g,k*2,none⟩ (n+1-k) (a-k) x zEc (pc (L.drop k)) y (by rw[z];congr 1;simp only[Nat.min_def];split<;>omega)
   (fun j u b=>by
    rw[zAg,y.cell];rw[<-zT9,<-H,List.getElem?_drop,List.getElem?_take]at b;split at b;rw[<-b,Array.getElem?_toList];cases b) (by rw[z];omega) (zQV _)
  obtain⟨d,m⟩:∃d:Array Value,(x.toList.take ((k+1)*2)++pc (L.drop k)++x.toList.drop ((k+1)*2+(pc (L.drop k)).length)).toArray=d:=⟨_,rfl⟩;rw[m]at b7;have c3:d.size=a*2:=by
   rw[<-m];simp[z];omega
  have P:Blk (s.setRow g d) g zEc d:=setRow_heap s g x d zEc (0,0) y;have c6:Blk (s.setRow g d) l zEc #[.int .i64 r,.int .i64 c]:=(setRow_other s g l d (qF a7)).trans a3;obtain⟨X,Y,-,-⟩:=c6.two;obtain⟨v2,F⟩:=zH4 (s.setRow g d) 3 g (k*2) (n+1-k) (a-k) ⟨l,0,none⟩ 1 1 d zEc (pc [(r,c)]) P (by show 2=_;simp only[Nat.min_def];split<;>omega)
   (fun j u b=>by
    rw[zAg];match j with
    |0=>simp[pc]at b;subst b;exact X
    |1=>simp[pc]at b;subst b;exact Y
    |j+2=>simp[pc]at b) (by show k*2+2<=_;omega) (zQV _)
  obtain⟨f,o⟩:∃f:Array Value,(d.toList.take (k*2)++pc [(r,c)]++d.toList.drop (k*2+(pc [(r,c)]).length)).toArray=f:=⟨_,rfl⟩;rw[o]at F;have a6:zIj ((s.setRow g d).setRow g f) base (.slice (some ⟨g,0,none⟩) (n+1) a) (L.take k++(r,c)::L.drop k)/\zB0 [g] w ((s.setRow g d).setRow g f):=by
   have M:(L.take k++(r,c)::L.drop k).length=n+1:=by simp[t.out];omega
   refine⟨⟨zKH _,.inr ⟨g,a,f,by rw[M],k1,setRow_heap _ g d f zEc (0,0) P,oM,k4,?_,?_⟩⟩,?_⟩
   .rw[<-o]
    have:(pc [(r,c)]).length=2:=rfl;simp[this];omega
   .rw[M,<-o,<-m]
    exact zTZ t.out oM (t.out ▸ H) (by simp;omega) r c
   refine(zB0.of [g] a4).trans (zWN y dE ((zEu _ _ _).trans (zEu _ _ _)) fun k p=>(setRow_other _ g k f p).trans (setRow_other _ g k d p))
  clear m o;go_wp2_with (first
   |(at_builtin;refine zGe rfl _ _ 163 163 rfl _ _ rfl rfl b7 ?_)
   |(at_builtin;refine zGe rfl _ _ 163 163 rfl _ _ rfl rfl F ?_))
  go_ret;exact⟨_,rfl,a6⟩
 obtain rfl:a=n:=oM;have d5:((a:Int)<(a:Int)+1):=oM;have E:Blk w g zEc x:=k2;have a7:g≠l:=b4 g rfl;have lg:=E.lt;have e8:=B.lt;obtain⟨N,hN⟩:∃N,w.heap.size=N:=⟨_,rfl⟩;have d6:(Builtin.firstCells U.size k (.slice (some ⟨g,0,none⟩) k a)).run Tryz.prog w.drew= .ok (pc (L.take k)).toArray w.drew:=by
  rw[S];exact run_firstCells_some w.drew 2 k ⟨g,0,none⟩ k a (pc (L.take k)) (by rw[zKH,qR,t.out];omega) (fun j u b=>by
   rw[zAg];show w.cell? _=_;rw[E.cell,zAM];rw[<-zUB,<-H,List.getElem?_take,List.getElem?_take]at b;split at b
   .split at b
    .rw[<-b,Array.getElem?_toList]
    cases b
   cases b)
 have b3:k+(a+1-k)=a+1:=oM;obtain⟨G,a0⟩:∃G,grownCap w (a+1) a zEc=G:=⟨_,rfl⟩;have e0:a+1<=G:=by rw[<-a0];exact grownCap_ge w _ _ _
 have b9:G<=9223372036854775807:=by
  have:=grownCap_le_maxLen w (a+1) a zEc (by unfold maxLen;omega);rw[a0]at this;unfold maxLen at this;omega
 obtain⟨i,a1⟩:∃i:Array Value,(pc (L.take k)).toArray++Builtin.zeroCells (Value.agg #[.int .i64 0,.int .i64 0]).cells (a+1-k)++Builtin.zeroCells (Value.agg #[.int .i64 0,.int .i64 0]).cells (G-(a+1))=i:=⟨_,rfl⟩;have d8:∀ty,(Builtin.append_ #[163,3] ty #[.slice (some ⟨g,0,none⟩) k a,.int .i64 ((a:Int)+1-(k:Int))]).run Tryz.prog w= .ok (.slice (some ⟨N,0,none⟩) (a+1) G) (w.drew.alloc (.cells i zEc)):=fun ty=>by
  have h:=Lib.run_append_grow_zeros w 163 3 ty zEc U _ .i64 .i64 zBi zDY Q a9 (some ⟨g,0,none⟩) k a (pc (L.take k)) d6 (a+1-k) oM oM oM oM (by rw[T];omega) (by rw[T,b3];exact growslice_fits oM oM);rw[b3,a0,a1,hN]at h;rw[show(a:Int)+1-(k:Int)=((a+1-k:Nat):Int) by omega];exact h
 have R:(pc (L.take k)).length=k*2:=by rw[zKH,qR,t.out];omega
 have e1:i.size=G*2:=by
  rw[<-a1];simp[Builtin.zeroCells,Value.cells,R];omega
 have c5:i.toList.take (k*2)=pc (L.take k):=by
  rw[<-a1];simp only[Array.toList_append,List.append_assoc];rw[<-R,zDA]
 have y:Blk ((w.alloc (.cells i zEc)).drew) N zEc i:=by rw[<-hN];exact yG w.drew zEc i
 have D:BWq w ((w.alloc (.cells i zEc)).drew):=((zC _ _).alloc (xgf _) _).drew;have a3:=B.I D;obtain⟨X,Y,-,-⟩:=a3.two;obtain⟨v2,F⟩:=zH4 ((w.alloc (.cells i zEc)).drew) 3 N (k*2) (a+1-k) (G-k) ⟨l,0,none⟩ 1 1 i zEc (pc [(r,c)]) y (by show 2=_;simp only[Nat.min_def];split<;>omega)
  (fun j u b=>by
   rw[zAg];match j with
   |0=>simp[pc]at b;subst b;exact X
   |1=>simp[pc]at b;subst b;exact Y
   |j+2=>simp[pc]at b) (by show k*2+2<=_;omega) (zQV _)
 obtain⟨d,m⟩:∃d:Array Value,(i.toList.take (k*2)++pc [(r,c)]++i.toList.drop (k*2+(pc [(r,c)]).length)).toArray=d:=⟨_,rfl⟩;rw[m]at F;have l2:(pc [(r,c)]).length=2:=rfl;have c3:d.size=G*2:=by
  rw[<-m];simp[l2];omega
 have c4:d.toList.take ((k+1)*2)=pc (L.take k)++pc [(r,c)]:=by
  rw[<-m];show List.take _ (_++_++_)=_;rw[c5,<-(show(pc (L.take k)++pc [(r,c)]).length=(k+1)*2 by rw[zAY,R,l2];omega),zDA]
 obtain⟨O,a2⟩:∃O,((w.alloc (.cells i zEc)).drew).setRow N d=O:=⟨_,rfl⟩;have P:Blk O N zEc d:=by rw[<-a2];exact setRow_heap _ N i d zEc (0,0) y
 have Z:BWq w O:=by
  rw[<-a2];exact⟨D.os,D.tape,D.output,by have:=(zEu ((w.alloc (.cells i zEc)).drew) N d).size;have:=D.size;omega,fun k p=>(setRow_other _ N k d oM).trans (D.block k p)⟩
 rw[a2]at F;have c8:¬ G=k+1:=oM;have e3:¬ G=k:=oM;have d3:(k:Int)<=(a:Int)+1:=oM;go_enter Tryz.func177,Tryz.ntmps177;go_upto_region 11 with(first
  |(at_builtin;refine Lib.wpList_append_run _ rfl _ _ _ _ rfl _ _ rfl rfl _ _ (d8 _) ?_)
  |(at_builtin;refine zGe rfl _ _ 163 163 rfl _ _ rfl rfl F ?_))
 have c9:(0:Int)<=(k:Int)+1:=oM;refine yA 8 [] ?_;refine sRd ?_;refine sRf ?_;intro V a5;have b0:=P.I a5;have c2:=(E.I Z).I a5;obtain⟨v3,b8⟩:=zH4 V 3 N ((k+1)*2) (a-k) (G-(k+1)) ⟨g,k*2,none⟩ (a-k) (a-k) d zEc (pc (L.drop k)) b0 (by rw[z];congr 1;simp only[Nat.min_def];split<;>omega)
  (fun j u b=>by
   rw[zAg,c2.cell];rw[<-zT9,<-H,List.getElem?_drop,List.getElem?_take]at b;split at b;rw[<-b,Array.getElem?_toList];cases b) (by rw[z];omega) (zQV _)
 obtain⟨f,o⟩:∃f:Array Value,(d.toList.take ((k+1)*2)++pc (L.drop k)++d.toList.drop ((k+1)*2+(pc (L.drop k)).length)).toArray=f:=⟨_,rfl⟩;rw[o]at b8;have a6:zIj (V.setRow N f) base (.slice (some ⟨N,0,none⟩) (a+1) G) (L.take k++(r,c)::L.drop k)/\zB0 [g] w (V.setRow N f):=by
  have M:(L.take k++(r,c)::L.drop k).length=a+1:=by simp[t.out];omega
  refine⟨⟨zKH _,.inr ⟨N,G,f,by rw[M],oM,setRow_heap _ N d f zEc (0,0) b0,oM,b9,?_,?_⟩⟩,?_⟩
  .rw[<-o]
   simp[z];omega
  .rw[M,<-o]
   show List.take _ (_++_++_)=_;rw[c4,zT8,show pc ((r,c)::L.drop k)=pc [(r,c)]++pc (L.drop k) from rfl,<-zAu];rw[<-(show(pc (L.take k)++pc [(r,c)]++pc (L.drop k)).length=(a+1)*2 by rw[zAY,zAY,z,R,l2];omega),zDA]
  refine zB0.of [g] ?_;have J:=Z.trans (a5.mono Z.size);exact⟨J.os,J.tape,J.output,by have:=(zEu V N f).size;have:=J.size;omega,fun k p=>(setRow_other _ N k f oM).trans (J.block k p)⟩
 clear m o;go_wp2_with (at_builtin;refine zGe rfl _ _ 163 163 rfl _ _ rfl rfl b8 ?_)
 go_ret;exact⟨_,rfl,a6⟩
theorem Tryz.infoNt:(Tryz.prog.info? 3).map (fun i=>(i.zero,i.size,i.bytes))=some (some (niq 0),1,8):=by kernel_rfl
theorem Tryz.cellsN:Tryz.prog.cellsOf 3=1:=by kernel_rfl
theorem zPf(W:World)(a b c d:Int):(Op.equalIn 10000 tP (.agg #[niq a,niq b]) (.agg #[niq c,niq d])).run Tryz.prog W= .ok (decide (a=c/\b=d)) W:=by
 obtain⟨s,l,-,r,-⟩:=info_parts Tryz.infoNt;have e:∀(g:Array Value) (i:Nat) (v:Value),g[i]?=some v->(part 3 g i).run Tryz.prog W= .ok v W:=by
  intro g i v h;simp[part,isAgg,run_underlying Tryz.underlying3,h,go_sem]
 rw[run_equalIn_array W 9999 _ _ Tryz.underlying146 l,Tryz.cellsN];have k:∀x y:Int,(Op.equalIn 9999 3 (niq x) (niq y)).run Tryz.prog W= .ok (x==y) W:=fun x y=>run_equalIn_int W 9998 3 .i64 .i64 x y zDY
 have n:=e #[niq a,niq b] 0 _ rfl;have o:=e #[niq a,niq b] 1 _ rfl;have p:=e #[niq c,niq d] 0 _ rfl;have q:=e #[niq c,niq d] 1 _ rfl;have m:List.range 2= [0,1]:=rfl;rw[m];simp only[Op.eqItems,Sem.run_bind,Nat.zero_mul,Nat.one_mul,n,o,p,q,Result.andThen_ok,k];by_cases f:a=c
 .by_cases j:b=d
  .simp[f,j,go_sem]
  simp[f,j,go_sem]
 simp[f,go_sem]
theorem zIv(q r:Value)(d b f c:Int)(w:World)(h1:zEs d b w q)(h2:zEs f c w r):
  CPq 125 #[q,r] w fun e w'=>e= .returned (.bool (decide (d=f/\b=c)))/\BWq w w':=by
 obtain⟨g,i⟩:∃g:Bool,decide (d=f/\b=c)=g:=⟨_,rfl⟩;rw[i];have m:=xgv i;obtain⟨I,E,G,rfl,L,M,n,s,t⟩:=h1;obtain⟨J,F,H,rfl,N,O,o,u,x⟩:=h2;have j:=fun W=>zPf W d b f c
 rw[i]at j;clear i;go_enter Tryz.func125,Tryz.ntmps125;go_wp2;go_loopw [13] (fun l wr=>∃k:Nat,k<=1/\l=niq k/\BWq w wr/\jI (0<k->d=f/\b=c)) (fun l _=>1-(intOf l).toNat)
 case atStart=>exact⟨0,oM,rfl,zC _ _,⟨fun h=>oM⟩⟩
 obtain⟨k,K,rfl,a,A⟩:=hrel;by_cases B:k=0
 .subst B
  have P:=((n.I a).cell 0).trans s;have Q:=((n.I a).cell 1).trans t;have R:=((o.I a).cell 0).trans u;have S:=((o.I a).cell 1).trans x;go_upto_region 6 with(fail)
  refine zBP [pcD 8 [] (fun _ v=>v= .bool (!g))] ?_;refine sRd ?_;refine sRc (fun U hI D z=>?_) (fun _ C=>?_)
  .go_simp
   exact⟨z _ _ rfl,zC _ _⟩
  obtain⟨_,-,rfl⟩:=C;refine sRe ?_;intro T p _;cases g with
  |true=>
   clear j;go_wp2;go_roundw
   case rel=>exact⟨1,oM,by simp,nx a p,⟨fun _=>yW m.out⟩⟩
   case measure=>simp[intOf]
  |false=>
   clear j;go_wp2;go_ret;exact⟨rfl,nx a p⟩
 obtain rfl:k=1:=oM;go_wp2;go_ret;refine⟨?_,a⟩;have y:g=true:=by rw[<-m.out];exact zQ (A.out oM)
 rw[y];rfl
theorem zPp(b:Nat)(c:Nat)(f a g d:Int)(h i:Value)(j k:List (List Int))(w:World)(m:Blk w b tM #[niq f,niq a,h,niq g,niq d,i])(hc:2<=c)(n:c<=9223372036854775807)
  (h1:zG3 w (.agg #[niq f,niq a,h]) f a j) (h2:zG3 w (.agg #[niq g,niq d,i]) g d k) (o:zBX f a j) (p:zBX g d k):
  CPq 97 #[slq b 2 c] w fun e w'=>∃v,e= .returned v/\v= .bool true/\BWq w w':=by
 refine(zId b c f a g d h i j k w m hc n h1 h2).mono ?_;rintro e w' ⟨rfl,l⟩;exact⟨_,rfl,by rw[zQ ⟨o,p⟩],l⟩
theorem zLo(a b:Value)(R C:Int)(w:World)(h1:zEs R C w a)(h2:zEs R C w b):
  CPq 125 #[a,b] w fun e w'=>∃v,e= .returned v/\v= .bool true/\BWq w w':=by
 refine(zIv a b R C R C w h1 h2).mono ?_;rintro e w' ⟨rfl,c⟩;exact⟨_,rfl,by rw[zQ ⟨rfl,rfl⟩],c⟩
def qAJ(a b c d e f:Value):World->Value->Prop:=fun w v=>∃g,v=slq g 2 2/\Blk w g tM #[a,b,c,d,e,f]
def zXt(a b c:Value):World->Value->Prop:=fun w v=>∃g,v=slq g 1 1/\Blk w g tM #[a,b,c]
theorem zHE(a b c d e f:Value):zAj (qAJ a b c d e f):=fun _ _ _ x ⟨g,h,i⟩=>⟨g,h,i.I x⟩
theorem zEl(a b c:Value):zAj (zXt a b c):=fun _ _ _ x ⟨g,d,e⟩=>⟨g,d,e.I x⟩
def zZR(w:World)(R C:Nat)(M:List (List Int))(e:Ending)(w':World):Prop:=∃v bs,e= .returned (.tuple #[v,niq 0])/\zZN w' w.heap.size v R C bs M/\BWq w w'
theorem zVh(A:Value)(M:List (List Int))(R C:Nat)(k:Int)(kb:Nat)(x y:Value)(w:World)(h:zG3 w (.agg #[niq R,niq C,A]) R C M)(hF:zBW R C M)(hR:R<=1000000)(hC:C<=1000000)
  (V:Blk w kb tI #[x,y]) (a6:jE w (.agg #[x,y]) k) (T:∀r∈M,∀z∈r,Sm z) (s2:Sm k):
  CPq 156 #[.agg #[niq R,niq C,A],.agg #[niq R,niq C,A],.func (.func 157) #[] #[ptq kb 0]] w (zZR w R C (genM R C (fun i j=>k*ent M i j))):=by
 have b0:∀(Q:Fn) (first c:Array Value) (w:World),(Instr.makeFunc Q first c).run Tryz.prog w= .ok (.func Q first c) w:=fun _ _ _ _=>rfl
 have S:=h;obtain⟨X,q,h⟩:=h;obtain rfl:A=X:=by
  injection q with q
  simp only[Array.mk.injEq,List.cons.injEq]at q;exact q.2.2.1
 obtain⟨f,n,c,rfl,e2,e3,e4,-⟩:=id h;have Y:=xgv hF;have P:=xgv hF.valid;have HS:=xgv T;have HK:=xgv s2;have HH:=xgv h;have O:=xgv S;obtain⟨G,a⟩:∃G:Nat->Nat->Int,(fun i j=>k*ent M i j)=G:=⟨_,rfl⟩;rw[a];have Z:=xgv a;clear hF T a e2 h S q;have a7:=zHE (niq R) (niq C) (.slice f n c) (niq R) (niq C) (.slice f n c);have a8:=zEl (niq R) (niq C) (.slice f n c);have a9:=zE0 R C;go_enter Tryz.func156,Tryz.ntmps156;go_upto_region 1 with(fail)
 refine zF ?_;intro W0 U;obtain⟨E,g,t,B,d,b2⟩:=zLy U;have u:=g.three;have D:=t.three;clear U;refine zBP [pcD 2 [] (qAJ (niq R) (niq C) (.slice f n c) (niq R) (niq C) (.slice f n c)),pcD 3 [2] (fun _ v=>v= .bool true),pcD 7 [] (zXt (niq R) (niq C) (.slice f n c)),pcD 8 [7] (zEs R C),pcD 10 [] (zXt (niq R) (niq C) (.slice f n c)),pcD 11 [10] (zEs R C),pcD 12 [8,11] (fun _ v=>v= .bool true)] ?_;refine sRd ?_;refine sRc (fun p hI m a=>?_) (fun b7 _=>?_)
 .go_simp
  exact⟨a _ _ ⟨_,rfl,yG _ _ _⟩,(zC _ _).alloc (xgf _) _⟩
 refine sRc (fun p hI I m a=>?_) (fun _ b=>?_)
 .obtain⟨g2,rfl,a2⟩:=I
  go_simp;refine(zPp g2 2 R C R C _ _ M M _ a2 (xgf _) oM ((O.out.I E).I hI.bel) ((O.out.I E).I hI.bel) P.out P.out).mono ?_;rintro e N ⟨v,rfl,b,l⟩;exact⟨_,rfl,a _ _ b,l⟩
 obtain⟨_,-,rfl⟩:=b;refine sRd ?_;refine sRc (fun p hI m a=>?_) (fun b8 _=>?_)
 .go_simp
  exact⟨a _ _ ⟨_,rfl,yG _ _ _⟩,(zC _ _).alloc (xgf _) _⟩
 refine sRc (fun p hI J m a=>?_) (fun b9 _=>?_)
 .obtain⟨g7,rfl,a3⟩:=J
  go_simp;refine(zFT g7 1 R C _ _ a3 ⟨_,_,_,rfl⟩ (xgf _) oM).mono ?_;rintro e N ⟨v,rfl,b,l⟩;exact⟨_,rfl,a _ _ b,l⟩
 refine sRd ?_;refine sRc (fun p hI m a=>?_) (fun b5 _=>?_)
 .go_simp
  exact⟨a _ _ ⟨_,rfl,yG _ _ _⟩,(zC _ _).alloc (xgf _) _⟩
 refine sRc (fun p hI F m a=>?_) (fun b6 _=>?_)
 .obtain⟨a0,rfl,a1⟩:=F
  go_simp;refine(zFT a0 1 R C _ _ a1 ⟨_,_,_,rfl⟩ (xgf _) oM).mono ?_;rintro e N ⟨v,rfl,b,l⟩;exact⟨_,rfl,a _ _ b,l⟩
 refine sRc (fun p hI K H m a=>?_) (fun _ b=>?_)
 .go_simp
  refine(zLo _ _ R C _ K H).mono ?_;rintro e N ⟨v,rfl,b,l⟩;exact⟨_,rfl,a _ _ b,l⟩
 obtain⟨_,-,rfl⟩:=b;refine sRd ?_;refine sRe ?_;intro w1 o I _ J K F H _;have s:=nx E o;have g:=g.I o;have t:=t.I o;have B:=B.I o;have d:=d.I o;have b3:=s.size;have b4:=o.size;clear u D I J K F H;have u:=g.three;have D:=t.three;go_wp2_with fail
 refine(zS1 _ M R C k (w.heap.size+1+1) kb x y w1 (HH.out.I s) Y.out hR hC B (V.I s) (a6.ext (lx s)) HS.out HK.out).mono ?_;rintro e w2 ⟨rfl,⟨bs,a5,W⟩,L⟩;rw[Z.out]at W;have a4:=nx s L;have g:=g.I L;have d:=d.I L;clear u D;have u:=g.three;have r1:=d.three;have lr:=d.lt;go_wp2;refine bodyPost_ret (zDh rfl _ rfl (d.put3 _ _ _) rfl) rfl ⟨_,bs,rfl,⟨a5,_,rfl,?_⟩,yB (yB (yB a4 oM 0 _) oM 1 _) oM 2 _⟩;exact(W.keep (fun k V=>zAm _ _ k _ _ _ oM) (d.lext3 dE _ _ _)).mono oM
theorem zLX(v x:Value)(M:List (List Int))(R C:Nat)(k:Int)(w:World)(h:zG3 w v R C M)(hF:zBW R C M)(o:jE w x k)(P:R<=1000000)(O:C<=1000000)
  (s:∀r∈M,∀z∈r,Sm z) (T:Sm k):
  CPq 114 #[v,x] w (zDl w R C (genM R C (fun i j=>k*ent M i j))):=by
 have Z:∀(q:Fn) (first c:Array Value) (w:World),(Instr.makeFunc q first c).run Tryz.prog w= .ok (.func q first c) w:=fun _ _ _ _=>rfl
 have N:=h;obtain⟨A,rfl,h⟩:=h;obtain⟨W,n,c,rfl,L,X,Y,-⟩:=id h;obtain⟨kn,ka,kl,kc,kx,rfl,S⟩:=id o;have y:=xgv hF;have E:=xgv s;have D:=xgv T;clear hF s S L;obtain⟨G,l⟩:∃G:Nat->Nat->Int,(fun i j=>k*ent M i j)=G:=⟨_,rfl⟩;rw[l];have B:=xgv l;clear l;go_enter Tryz.func114,Tryz.ntmps114;go_upto_region 1 with(fail)
 refine zF ?_;intro H t;obtain⟨d,K,I,a,a0⟩:=zBc t;have p:=K.three;clear t;go_wp2_with fail
 refine(zVh _ M R C k (w.heap.size+1) _ _ H (N.I d) y.out P O I (o.ext (lx d)) E.out D.out).mono ?_;rintro e w1 ⟨a3,J,rfl,⟨Q,U,rfl,b⟩,m⟩;rw[B.out]at b;obtain⟨oo,on,oc,rfl,-,-,-,-⟩:=id b.rows;have g:=nx d m;have a:=a.I m;have a2:=m.size;clear p;go_upto_region 2 with(fail)
 refine zF ?_;intro V u;obtain⟨f,F,a1⟩:=qJ u;have a:=a.I f;have b:=b.I f;have g:=nx g f;have p:=F.three;have r1:=a.three;have lr:=a.lt;clear u;go_wp2;refine zAD rfl rfl rfl (a.put3 _ _ _) ⟨_,J,rfl,⟨Q,_,rfl,?_⟩,yB (yB (yB g oM 0 _) oM 1 _) oM 2 _⟩;exact(b.keep (fun k o=>zAm _ _ k _ _ _ oM) (a.lext3 dE _ _ _)).mono oM
theorem zRm(v a:Value)(M:List (List Int))(R C:Nat)(k:Int)(w:World)(h:zAQ w v R C M)(hF:zBW R C M)(e:jE w a k)(c:R<=1000000)(b:C<=1000000)
  (d:∀r∈M,∀z∈r,Sm z) (f:Sm k):
  CPq 114 #[v,a] w (zDl w R C (genM R C (fun i j=>k*ent M i j))):=zLX v a M R C k w h.off hF e c b d f
def zIU(zs:List Int)(M:List (List Int))(m j:Nat):Int:=zUw (fun t=>zs.getD t 0*ent M t j) m
def zSj(zs:List Int)(M:List (List Int))(m C:Nat):Prop:=∀j,j<C->∀t,t<m->Sm (zs.getD t 0)/\Sm (ent M t j)/\Sm (zs.getD t 0*ent M t j)/\Sm (zIU zs M t j)
theorem zKU(zs:List Int)(M:List (List Int))(m j:Nat):zIU zs M (m+1) j=zIU zs M m j+zs.getD m 0*ent M m j:=rfl
theorem zUd(w:World)(n:Nat)(f:Nat->Int)(d:∀t,t<n->f t=0):jY (w.alloc (.cells (zeroCells n) tI)) w.heap.size (yV n f):=by
 have b:=zH2 w n;have c:List.replicate n (0:Int)=yV n f:=by
  apply qX;simp[yV];intro i e a;simp[yV]at a;simp[yV,d i a]
 rwa[c]at b
theorem zRn(v mv:Value)(zs:List Int)(M:List (List Int))(m C:Nat)(w:World)(b9:zBy w v zs)(G:zAQ w mv m C M)(hl:zs.length=m)(hF:zBW m C M)(hm:m<=1000000)(hC:C<=1000000)(hS:zSj zs M m C):
  CPq 111 #[v,mv] w fun e w'=>∃v,e= .returned v/\zHV w.heap.size C (yV C (zIU zs M m)) w' v/\BWq w w':=by
 obtain⟨d4,rfl,G⟩:=G;obtain⟨ao,n,a0,rfl,E,e3,e4,-⟩:=id G;obtain rfl:m=n:=by rw[<-E,hF.1]
 obtain⟨vo,n1,f7,rfl,f1,f3,f4,-⟩:=id b9;obtain rfl:m=n1:=oM;have d0:=fun c5=>mkI (C:Int) C rfl oM c5
 have HL:=xgv hl;have Y:=xgv hF;have HS:=xgv hS;clear hl hF hS E f1;go_enter Tryz.func111,Tryz.ntmps111;go_upto_region 1 with(fail)
 refine zF ?_;intro D a5;obtain⟨a3,b,e5⟩:=qJ a5;have I:=b.three;clear a5;go_upto_region 2 with(fail)
 refine zF ?_;intro W1 L;obtain⟨a4,-,e6⟩:=qJ L;have a:jY W1 D.heap.size (yV C (zIU zs M 0)):=by
  rw[L.out];exact zUd D C _ (fun _ _=>rfl)
 have b:=b.I a4;have hB:=nx a3 a4;clear L d0 I;go_wp2;go_loopw [15] (fun U wr=>∃i:Nat,i<=m/\U=niq i/\BWq w wr/\Blk wr w.heap.size tM #[niq m,niq C,.slice ao m a0]/\jY wr D.heap.size (yV C (zIU zs M i))) (fun U _=>m-(intOf U).toNat)
 case atStart=>exact⟨0,oM,rfl,hB,b,a⟩
 obtain⟨i,hi,rfl,c,b,a⟩:=hrel;have c8:=a3.size;by_cases O:i<m
 .obtain⟨b1,x,s1,a1,l1,H,rfl,d6,c2,p1,p2,f⟩:=(b9.I c).cell (k:=i) (by rw[HL.out];exact O)
  have S:jI (zs.getD i 0=x):=⟨zB8 c2⟩;have d9:=c.size;have c4:=b.lt;have lr:=a.lt;clear c2;go_upto_region 5 with(fail)
  refine zF ?_;intro W6 a6;obtain⟨F,d,e7⟩:=qJ a6;have p:=d.two;have f:=f.ext (lx F);have b:=b.I F;have a:=a.I F;have c:=nx c F;clear p1 p2 a6;go_wp2_with fail
  refine(zAw _ x W6 f.J).mono ?_;rintro e w7 ⟨rfl,q⟩;have f:=f.ext (lx q);have b:=b.I q;have a:=a.I q;have d:=d.I q;have c:=nx c q;clear p;by_cases z:x=0
  .rw[zBL z]
   have u:jI (yV C (zIU zs M i)=yV C (zIU zs M (i+1))):=⟨yH fun t _=>by rw[zKU,S.out,z,yK,zAJ]⟩;clear z;go_wp2;go_roundw
   case rel=>exact⟨i+1,oM,by simp,c,b,u.out ▸ a⟩
   case measure=>exact meq
  have N:=zCm z;obtain⟨W,b4⟩:∃W,zAv x 0=W:=⟨_,rfl⟩;rw[b4]at N ⊢
  clear b4 z;obtain⟨b2,ra,rn,rc,ys,rfl,d7,R,X,hv⟩:=G.row (k:=i) (by rw[Y.out.1];exact O);have c0:=Y.out.2 ys (xgd R);have d2:=hv.len;obtain rfl:C=rn:=oM;have Z:=xgv (And.intro R c0);have X:=jP X c;have I:=b.three;obtain⟨d3,e9,f0⟩:=d2;have b7:yV C (zIU zs M i)=yV C (jD (zIU zs M (i+1)) (zIU zs M i) 0):=yH fun t _=>by unfold jD;rw[zA oM]
  rw[b7]at a;clear R c0 d3 b7;go_wp2;rw[show(W==0)=false by simpa using N];clear N X I;go_loopw [29] (fun V wt=>∃j:Nat,j<=C/\V=niq j/\BWq w wt/\Blk wt w.heap.size tM #[niq m,niq C,slq b2 m a0]/\jY wt D.heap.size (yV C (jD (zIU zs M (i+1)) (zIU zs M i) j))/\Blk wt wr.heap.size tI #[.bool s1,.slice a1 l1 H]/\jE wt (.agg #[.bool s1,.slice a1 l1 H]) x) (fun V _=>C-(intOf V).toNat)
  case atStart=>exact⟨0,oM,rfl,c,b,a,d,f⟩
  rename World=>wt
  obtain⟨j,hj,rfl,c,b,a,d,f⟩:=hrel;by_cases s:j<C
  .obtain⟨b3,y,s2,a2,l2,k2,rfl,d8,c3,q1,q2,l⟩:=(hv.I c).cell (k:=j) (by rw[Z.out.2];exact s)
   have T:jI (ent M i j=y):=⟨zFE Z.out.1 c3⟩;have e0:=c.size;have c4:=b.lt;have lr:=a.lt;have l7:=d.lt;clear c3;go_upto_region 9 with(fail)
   refine zF ?_;intro W8 a7;obtain⟨h,o,e8⟩:=qJ a7;have p:=o.two;have f:=f.ext (lx h);have l:=l.ext (lx h);have b:=b.I h;have a:=a.I h;have d:=d.I h;have c:=nx c h;clear q1 q2 a7;go_wp2_with fail
   refine(zAw _ y W8 l.J).mono ?_;rintro e w9 ⟨rfl,g⟩;have f:=f.ext (lx g);have l:=l.ext (lx g);have b:=b.I g;have a:=a.I g;have d:=d.I g;have o:=o.I g;have c:=nx c g;clear p;by_cases A:y=0
   .rw[zBL A]
    have u:jI (yV C (jD (zIU zs M (i+1)) (zIU zs M i) j)=yV C (jD (zIU zs M (i+1)) (zIU zs M i) (j+1))):=⟨yH fun t _=>by
     unfold jD;by_cases J:t<j
     .rw[zB J,zB oM]
     by_cases h2:t=j
     .subst h2
      rw[zA J,zB oM,zKU,T.out,A,qB,zAJ]
     rw[zA J,zA oM]⟩
    clear A;go_wp2;go_roundw
    case rel=>exact⟨j+1,oM,by simp,c,b,u.out ▸ a,d,f⟩
    case measure=>exact meq
   have c9:=zCm A;obtain⟨f2,b5⟩:∃H,zAv y 0=H:=⟨_,rfl⟩;rw[b5]at c9 ⊢
   clear b5 A;obtain⟨n1,n2,n3,n4,r1,r2,-,-,b0⟩:=a.cell (yO s);have b8:jD (zIU zs M (i+1)) (zIU zs M i) j j=zIU zs M i j:=by unfold jD;rw[zA oM]
   rw[b8]at b0;have p:=d.two;obtain⟨e1,E,c6,c7⟩:=o.two;have c4:=b.lt;have lr:=a.lt;have l7:=d.lt;have l9:=o.lt;have Q:=HS.out j s i O;rw[S.out,T.out]at Q;have B:=xgv Q;clear Q b8;go_upto_region 10 with(fail)
   refine yA 11 [pcI 8 (x*y),pcD 9 [8] (fun w v=>jE w v (zIU zs M i j+x*y))] ?_;refine sRd ?_;refine sRc (fun wS hI Gk K=>by go_simp;exact ck K (zES _ _ x y _ (f.ext hI.lext).J (l.ext hI.lext).J B.out.1 B.out.2.1)) (fun f5 _=>?_);refine sRc (fun wS hI a8 Gk K=>by go_simp;exact ck K (zIE _ _ (zIU zs M i j) (x*y) _ (b0.ext hI.lext).J a8.J B.out.2.2.2 B.out.2.2.1)) (fun f6 _=>?_);refine sRd ?_;refine sRe ?_;intro wv r a8 a9;obtain⟨pn,pa,pl,pc,px,rfl,b6⟩:=id a9;have d5:=xgw b6;have a:=a.I r;have b:=b.I r;have d:=d.I r;have f:=f.ext (lx r);have c:=nx c r;obtain⟨m1,m2,m3,m4,z1,z2,z3,z4,-⟩:=a.cell (yO s);have P:=a.set (k:=j) (by rw[qN];exact s) a9;rw[zJS (by rw[zKU,S.out,T.out])]at P;clear b6 p e1 E c6 c7 r1 r2;go_wp2;go_roundw
   case rel=>exact⟨j+1,oM,by simp,yB (yB c oM _ _) oM _ _,(yL _ _ _ _ _ _ _ oM).trans b,P.1,(yL _ _ _ _ _ _ _ oM).trans d,f.ext P.2⟩
   case measure=>exact meq
  obtain rfl:j=C:=oM;have u:yV j (jD (zIU zs M (i+1)) (zIU zs M i) j)=yV j (zIU zs M (i+1)):=yH fun t ht=>by unfold jD;rw[zB ht]
  rw[u]at a;go_wp2;go_roundw
  case rel=>exact⟨i+1,oM,by simp,c,b,a⟩
  case measure=>exact meq
 obtain rfl:i=m:=oM;go_wp2;go_ret;exact⟨_,rfl,⟨_,rfl,c8,a⟩,c⟩
end Go.Proofs.YtkidaebmhlijlaaGreat
