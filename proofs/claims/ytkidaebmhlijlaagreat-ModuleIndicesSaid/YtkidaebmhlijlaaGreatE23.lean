/- Joined. -/
import Derived.Test.YtkidaebmhlijlaaGreatE12
import Derived.Test.YtkidaebmhlijlaaGreatE15
import Derived.Test.YtkidaebmhlijlaaGreatE19
import Derived.Test.YtkidaebmhlijlaaGreatE20
set_option linter.unusedVariables false
set_option linter.unusedSimpArgs false
set_option linter.unusedSectionVars false
set_option maxHeartbeats 16000000
set_option maxRecDepth 100000
variable{zs:List Int}{v:Go.Value}{w w':Go.World}
namespace Go.Proofs.YtkidaebmhlijlaaGreat
open Go.RowKit
theorem zW2(h:zBy w v zs)(e:∀b,jY w b zs->w'.heap[b]?=w.heap[b]?)(x:zBq w w'):zBy w' v zs:=by
 obtain⟨a,n,c,d,f,g,i,j⟩:=h;exact⟨a,n,c,d,f,g,i,fun k=>(j k).elim fun b h=>⟨b,h.1,h.2.old (e b h.2) x⟩⟩
theorem RsO.offS{base:Nat}{M:List (List Int)}{g:Nat}{T:TypeId}{cs:Array Value}(h:RsO w base v M)(s:Blk w g T cs)(h1:T≠tR)(h2:T≠tI)(i:∀b,b≠g->w'.heap[b]?=w.heap[b]?)(z:zBq w w'):RsO w' base v M:=by
 have f:∀{c:Nat} {U:TypeId} {d:Array Value},w.heap[c]?=some (.cells d U (0,0))->T≠U->c≠g:=by
  intro c U d a r u;subst u;have t:w.heap[c]?=some (.cells cs T (0,0)):=s;rw[t]at a;injection a with a
  injection a with _ y
  exact r y
 obtain⟨F,j,A,B⟩:=h;refine⟨F,⟨j.1,?_⟩,A,fun k E zs o p=>zW2 (B k E zs o p) (fun b x=>by obtain⟨H,G,-⟩:=x;exact i b (f G h2)) z⟩;rcases j.2 with q|⟨e,m,n,rfl,C,l,D⟩
 exact .inl q;exact .inr ⟨e,m,n,rfl,C,(i e (f l h1)).trans l,D⟩
theorem zV0(a b c d e f:Value)(W:World):(Instr.index 119 (.agg #[a,b,c,d,e,f]) (niq 0)).run Tryz.prog W= .ok (.agg #[a,b,c]) W:=by
 kernel_rfl
theorem zV1(a b c d e f:Value)(W:World):(Instr.index 119 (.agg #[a,b,c,d,e,f]) (niq 1)).run Tryz.prog W= .ok (.agg #[d,e,f]) W:=by
 kernel_rfl
theorem zIo(M:List (List Int)):zAj (fun w v=>zBg w v M):=fun _ _ _ a h=>h.I a
theorem zMk{a:Value}(h:zBy w a zs):zBg (w.alloc (.cells #[a] 46)) (slq w.heap.size 1 1) [zs]:=
 ⟨_,1,1,rfl,rfl,xgf _,oM,fun _=>⟨w.heap.size,#[a],rfl,yG _ _ _,fun k c b=>by
  match k with
  | 0=>
    obtain rfl:zs=c:=by simpa using b
    exact⟨a,rfl,h.I ((zC _ _).alloc (xgf _) _)⟩
  |k+1=>simp at b⟩⟩
theorem zT6(v:Value)(zs:List Int)(w:World)(h:zBy w v zs)(c:zs.length<=1000000)(a:∀z∈zs,Sm z):
  CPq 98 #[v,.slice none 0 0] w fun e w'=>∃u,e= .returned u/\zBy w' u zs/\BWq w w':=
 (zRv v zs w h c a).mono fun e w' ⟨u,h,d,b⟩=>⟨u,h,d.vec,b⟩
def qAW(w0:World)(rb g R C:Nat)(D:List (List Int))(w:World):Prop:=∃o n k,Blk w g 32 #[niq R,niq C,.slice o n k]/\RsO w (g+1) (.slice o n k) D/\Blk w rb 32 #[niq 0,niq 0,.slice none 0 0]/\BWq w0 w
def qAp(M N:List (List Int))(i:Nat):List (List Int):=if i=0 then []else if i=1 then M else M++N
theorem zLY(v1 v2:Value)(R Q C:Nat)(M N:List (List Int))(w:World)(h1:zAQ w v1 R C M)(h2:zAQ w v2 Q C N)(a4:zBW R C M)(a5:zBW Q C N)(hR:R<=1000000)(hQ:Q<=1000000)(hC:C<=1000000)(d3:∀r∈M,∀z∈r,Sm z)(d4:∀r∈N,∀z∈r,Sm z):
  CPq 58 #[v1,v2] w fun e w'=>∃v,e= .returned (.tuple #[v,.int .i64 0])/\zAQ w' v ((R+Q:Nat):Int) C (M++N)/\BWq w w':=by
 have H1:=xgv h1;have H2:=xgv h2;obtain⟨A1,rfl,h1⟩:=h1;obtain⟨A2,rfl,h2⟩:=h2;obtain⟨ao,n1,d2,rfl,e2,e3,e4,-⟩:=id h1;obtain⟨bo,n2,d0,rfl,g2,g3,g4,-⟩:=id h2;obtain rfl:R=n1:=by rw[<-e2,a4.1]
 obtain rfl:Q=n2:=by rw[<-g2,a5.1]
 have d7:=xgv (zQ (And.intro a4.valid a5.valid));have P:=xgv a4;have S:=xgv a5;have d8:=xgv d3;have d9:=xgv d4;have e1:IntKind.i64.wrap ((R:Int)+(Q:Int))=((R+Q:Nat):Int):=by rw[<-zAX];exact yC _ oM
 clear h1 h2 a4 a5 d3 d4 e2 g2;go_enter Tryz.func58,Tryz.ntmps58;go_upto_region 1 with(fail)
 refine zF ?_;intro W0 d5;obtain⟨b3,u,x,a,f5⟩:=zBc d5;obtain⟨c1,c2,G,c4,c5,c6⟩:=u.three;have d1:=x.three;clear d5;go_wp2_with fail
 refine(zId _ 2 R C Q C _ _ M N _ (yG _ _ _) (xgf _) oM ((H1.out.I b3).I ((zC _ _).alloc (xgf _) _)).off ((H2.out.I b3).I ((zC _ _).alloc (xgf _) _)).off).mono ?_;rintro e c ⟨rfl,e5⟩;rw[d7.out];have Z:BWq W0 c:=nx ((zC _ _).alloc (xgf _) _) e5;have hB:=nx b3 Z;have u:=u.I Z;have x:=x.I Z;have a:=a.I Z;have f7:=Z.size;clear c1 c2 G c4 c5 c6 d1;obtain⟨c1,c2,G,c4,c5,c6⟩:=u.three;have d1:=x.three;go_upto_region 4 with(fail)
 refine zF ?_;intro W3 d6;obtain⟨a3,T6,f6⟩:=qJ d6;try rw[e1]at T6
 have hB:=nx hB a3;have u:=u.I a3;have x:=x.I a3;have a:=a.I a3;clear c1 c2 G c4 c5 c6 d1 d6;obtain⟨c1,c2,G,c4,c5,c6⟩:=u.three;have d1:=x.three;have f2:w.heap.size+1+1<c.heap.size:=oM;have f1:c.heap.size+1<=W3.heap.size:=T6.lt;have f3:=fun a9=>zV0 (.int .i64 R) (.int .i64 C) (.slice ao R d2) (.int .i64 Q) (.int .i64 C) (.slice bo Q d0) a9
 have f4:=fun a9=>zV1 (.int .i64 R) (.int .i64 C) (.slice ao R d2) (.int .i64 Q) (.int .i64 C) (.slice bo Q d0) a9
 go_wp2;go_loopw [35] (fun iv wr=>∃i:Nat,i<=2/\iv= .int .i64 i/\qAW w (w.heap.size+1+1) c.heap.size (R+Q) C (qAp M N i) wr) (fun iv _=>2-(intOf iv).toNat)
 case atStart=>exact⟨0,oM,rfl,_,_,_,T6,⟨[],zCR _ _ _ _,rfl,fun k _ _ e0=>by simp at e0⟩,a,hB⟩
 obtain⟨i,hi,rfl,o,n,k,f,d,a,g⟩:=hrel;rcases(by omega:i=0∨i=1∨i=2)with rfl|rfl|rfl
 .rw[show((0:Nat):Int)=(0:Int) from rfl]
  go_upto_region 7 with(fail)
  refine zF ?_;intro W7 X;obtain⟨q,T8,f0⟩:=qJ X;have s1:=T8.three;have a0:=nx g q;have f:=f.I q;have d:=d.I q;have a:=a.I q;clear X;go_wp2;go_loopw [41] (fun F wr=>∃j:Nat,j<=R/\F= .int .i64 j/\qAW w (w.heap.size+1+1) c.heap.size (R+Q) C ([]++(M).take j) wr/\BWq w wr) (fun F _=>R-(intOf F).toNat)
  case atStart=>exact⟨0,oM,rfl,⟨_,_,_,f,by rw[jW,zBS];exact d,a,a0⟩,a0⟩
  obtain⟨j,hj,rfl,⟨o,n,k,f,d,a,g⟩,-⟩:=hrel;by_cases b6:j<R
  .obtain⟨A',p,hA⟩:=(H1.out.I g)
   injection p with p
   simp only[Array.mk.injEq,List.cons.injEq]at p;obtain⟨-,-,rfl,-⟩:=p;obtain⟨b,ra,rn,rc,zs,rfl,e6,E,q1,c0⟩:=hA.row (k:=j) (by rw[P.out.1];exact b6);have hd:Hid ((M).take (j+1)=(M).take j++ [zs]):=by rw[jH,E];exact xgw rfl
   have D:=xgd E;have a6:=xgv (P.out.2 zs D);have a7:=xgv (d8.out zs D);have t:=xgv d.own;have T:=xgv d;clear E D d;go_upto_region 10 with(fail)
   obtain⟨H,I,J,K,L,O⟩:=f.three;have e7:=zCc zs;have e8:=zIo [zs];refine yA 5 [pcD 3 [] (fun w v=>zBy w v zs),pcD 4 [3] (fun w v=>zBg w v [zs])] ?_;refine sRd ?_;refine sRc (fun wS hI Gk y=>by go_simp;exact ck y (zT6 _ zs _ (c0.I hI.bel) (by rw[a6.out];omega) a7.out)) (fun c9 _=>?_);refine sRc (fun wS hI Y Gk y=>?_) (fun a2 _=>?_)
   .have k3:zBy wS c9 zs:=Y
    obtain⟨o3,n3,G,rfl,-⟩:=id k3;go_simp;exact⟨y _ _ (zMk k3),(zC _ _).alloc (xgf _) _⟩
   refine sRe ?_;intro w5 s Y A;have A:zBg w5 a2 [zs]:=A;have b7:=T.out.I s;have U:=f.I s;have V:=a.I s;have b4:=nx g s;have c7:=U.lt;have c8:=V.lt;clear H I J K L O;go_wp2_with (at_builtin;refine zXw rfl _ _ rfl (c.heap.size+1) (.slice o n k) ([]++(M).take j) rfl b7 a2 [zs] rfl A (by have:=P.out.1;have:=S.out.1;simp;omega) oM ?_;intro v' w' a1 B e9;have m:Blk w' c.heap.size 32 #[.int .i64 ((R+Q:Nat):Int),.int .i64 C,.slice o n k]:=(B.block _ c7 (fun e=>by have:=(t.out _ e.symm).1;omega)).trans U;have b0:Blk w' (w.heap.size+1+1) 32 #[.int .i64 0,.int .i64 0,.slice none 0 0]:=(B.block _ c8 (fun e=>by have:=(t.out _ e.symm).1;omega)).trans V;have b5:BWq w w':=b4.grown B oM (fun g' hg=>by have:=(t.out g' hg).1;omega);obtain⟨H,I,J,K,L,O⟩:=m.three;obtain⟨l,h,pc,rfl,-⟩:=id a1.rows)
   have b9:zBq w' (w'.setCell ⟨c.heap.size,2,none⟩ (.slice l h pc)):=m.lext dE _ _;have b8:=a1.offS m dE dE (fun b g=>qC _ _ _ b _ g) b9;have a8:Blk (w'.setCell ⟨c.heap.size,2,none⟩ (.slice l h pc)) c.heap.size 32 #[.int .i64 ((R+Q:Nat):Int),.int .i64 C,.slice l h pc]:=by simpa using m.set_ 2 (.slice l h pc)
   have b2:Blk (w'.setCell ⟨c.heap.size,2,none⟩ (.slice l h pc)) (w.heap.size+1+1) 32 #[.int .i64 0,.int .i64 0,.slice none 0 0]:=(qC _ _ _ _ _ oM).trans b0;have W:BWq w (w'.setCell ⟨c.heap.size,2,none⟩ (.slice l h pc)):=yB b5 oM _ _;go_roundw
   case rel=>exact⟨j+1,oM,by simp,⟨_,_,_,a8,by rw[hd.out,<-List.append_assoc];exact b8,b2,W⟩,W⟩
   case measure=>exact meq
  obtain rfl:j=R:=oM;go_wp2;go_roundw
  case rel=>exact⟨1,oM,by simp,⟨_,_,_,f,by have e:qAp M N 1= []++(M).take j:=(by rw[<-P.out.1,jO];rfl);rw[e];exact d,a,g⟩⟩
  case measure=>simp[intOf]
 .rw[show((1:Nat):Int)=(1:Int) from rfl]
  go_upto_region 7 with(fail)
  refine zF ?_;intro W7 X;obtain⟨q,T8,f0⟩:=qJ X;have s1:=T8.three;have a0:=nx g q;have f:=f.I q;have d:=d.I q;have a:=a.I q;clear X;go_wp2;go_loopw [41] (fun F wr=>∃j:Nat,j<=Q/\F= .int .i64 j/\qAW w (w.heap.size+1+1) c.heap.size (R+Q) C (M++(N).take j) wr/\BWq w wr) (fun F _=>Q-(intOf F).toNat)
  case atStart=>exact⟨0,oM,rfl,⟨_,_,_,f,by rw[jW,zBS];exact d,a,a0⟩,a0⟩
  obtain⟨j,hj,rfl,⟨o,n,k,f,d,a,g⟩,-⟩:=hrel;by_cases b6:j<Q
  .obtain⟨A',p,hA⟩:=(H2.out.I g)
   injection p with p
   simp only[Array.mk.injEq,List.cons.injEq]at p;obtain⟨-,-,rfl,-⟩:=p;obtain⟨b,ra,rn,rc,zs,rfl,e6,E,q1,c0⟩:=hA.row (k:=j) (by rw[S.out.1];exact b6);have hd:Hid ((N).take (j+1)=(N).take j++ [zs]):=by rw[jH,E];exact xgw rfl
   have D:=xgd E;have a6:=xgv (S.out.2 zs D);have a7:=xgv (d9.out zs D);have t:=xgv d.own;have T:=xgv d;clear E D d;go_upto_region 10 with(fail)
   obtain⟨H,I,J,K,L,O⟩:=f.three;have e7:=zCc zs;have e8:=zIo [zs];refine yA 5 [pcD 3 [] (fun w v=>zBy w v zs),pcD 4 [3] (fun w v=>zBg w v [zs])] ?_;refine sRd ?_;refine sRc (fun wS hI Gk y=>by go_simp;exact ck y (zT6 _ zs _ (c0.I hI.bel) (by rw[a6.out];omega) a7.out)) (fun c9 _=>?_);refine sRc (fun wS hI Y Gk y=>?_) (fun a2 _=>?_)
   .have k3:zBy wS c9 zs:=Y
    obtain⟨o3,n3,G,rfl,-⟩:=id k3;go_simp;exact⟨y _ _ (zMk k3),(zC _ _).alloc (xgf _) _⟩
   refine sRe ?_;intro w5 s Y A;have A:zBg w5 a2 [zs]:=A;have b7:=T.out.I s;have U:=f.I s;have V:=a.I s;have b4:=nx g s;have c7:=U.lt;have c8:=V.lt;clear H I J K L O;go_wp2_with (at_builtin;refine zXw rfl _ _ rfl (c.heap.size+1) (.slice o n k) (M++(N).take j) rfl b7 a2 [zs] rfl A (by have:=P.out.1;have:=S.out.1;simp;omega) oM ?_;intro v' w' a1 B e9;have m:Blk w' c.heap.size 32 #[.int .i64 ((R+Q:Nat):Int),.int .i64 C,.slice o n k]:=(B.block _ c7 (fun e=>by have:=(t.out _ e.symm).1;omega)).trans U;have b0:Blk w' (w.heap.size+1+1) 32 #[.int .i64 0,.int .i64 0,.slice none 0 0]:=(B.block _ c8 (fun e=>by have:=(t.out _ e.symm).1;omega)).trans V;have b5:BWq w w':=b4.grown B oM (fun g' hg=>by have:=(t.out g' hg).1;omega);obtain⟨H,I,J,K,L,O⟩:=m.three;obtain⟨l,h,pc,rfl,-⟩:=id a1.rows)
   have b9:zBq w' (w'.setCell ⟨c.heap.size,2,none⟩ (.slice l h pc)):=m.lext dE _ _;have b8:=a1.offS m dE dE (fun b g=>qC _ _ _ b _ g) b9;have a8:Blk (w'.setCell ⟨c.heap.size,2,none⟩ (.slice l h pc)) c.heap.size 32 #[.int .i64 ((R+Q:Nat):Int),.int .i64 C,.slice l h pc]:=by simpa using m.set_ 2 (.slice l h pc)
   have b2:Blk (w'.setCell ⟨c.heap.size,2,none⟩ (.slice l h pc)) (w.heap.size+1+1) 32 #[.int .i64 0,.int .i64 0,.slice none 0 0]:=(qC _ _ _ _ _ oM).trans b0;have W:BWq w (w'.setCell ⟨c.heap.size,2,none⟩ (.slice l h pc)):=yB b5 oM _ _;go_roundw
   case rel=>exact⟨j+1,oM,by simp,⟨_,_,_,a8,by rw[hd.out,<-List.append_assoc];exact b8,b2,W⟩,W⟩
   case measure=>exact meq
  obtain rfl:j=Q:=oM;go_wp2;go_roundw
  case rel=>exact⟨2,oM,by simp,⟨_,_,_,f,by have e:qAp M N 2=M++(N).take j:=(by rw[<-S.out.1,List.take_length];rfl);rw[e];exact d,a,g⟩⟩
  case measure=>simp[intOf]
 rw[show((2:Nat):Int)=(2:Int) from rfl];obtain⟨H,I,J,K,L,O⟩:=f.three;have r1:=a.three;have d:RsO _ (c.heap.size+1) (.slice o n k) (M++N):=d;have T:=xgv d;clear d;go_wp2;refine bodyPost_ret (zDh rfl _ rfl (a.put3 _ _ _) rfl) rfl ⟨_,rfl,⟨_,rfl,(T.out.offS a dE dE (fun k hk=>zAm _ _ k _ _ _ hk) (a.lext3 dE _ _ _)).rows⟩,yB (yB (yB g oM 0 _) oM 1 _) oM 2 _⟩
theorem zTu(v:Value)(R C m D E:Nat)(M:List (List Int))(w:World)(h:zAQ w v R C M)(hF:zBW R C M)(hR:R<=1000000)(hC:C<=1000000)(hm:m<=C)(hS:∀r∈M,∀z∈r,Sm z)
  (N:Blk w D tN (zBo R (fun t=>(t:Int)))) (O:Blk w E tN (zBo m (fun t=>(t:Int)))):
  CPq 63 #[v,slq D R R,slq E m m] w fun e w'=>∃u,e= .returned u/\zVS (R:Int) m (genM R m (ent M)) w' u/\BWq w w':=by
 have h0:=xgv h;obtain⟨c3,rfl,h⟩:=h;obtain⟨ao,n,a0,rfl,B,e3,e4,-⟩:=id h;have HX:=xgw B;have HS:=xgv hS;have HF:=xgv hF;obtain rfl:n=R:=by rw[<-B,hF.1]
 have a5:decide (zBX n C M)=true:=zQ hF.valid;obtain⟨f,L⟩:∃f:Nat->Nat->Int,ent M=f:=⟨_,rfl⟩;rw[L];have a6:∀i j,f i j=ent M i j:=fun i j=>by rw[<-L]
 have b3:=xgv a6;have X:=xgv N;have Y:=xgv O;have d5:=N.lt;have d6:=O.lt;clear L a6 B hS hF N O;go_enter Tryz.func63,Tryz.ntmps63;go_upto_region 1 with(fail)
 refine zF ?_;intro W0 a2;obtain⟨a1,b,a,d8⟩:=zAU a2;have l:=b.three;clear a2;go_wp2_with fail
 refine(zDf _ n C M W0 (h0.out.I a1)).mono ?_;rintro e w1 ⟨rfl,F⟩;rw[a5];have c:=nx a1 F;have b:=b.I F;have a:=a.I F;clear l a5;have l:=b.three;go_wp2_with fail
 refine(zNj n w1).mono ?_;rintro e w2 ⟨rfl,k2,G⟩;have c:=nx c G;have b:=b.I G;have a:=a.I G;clear l;have l:=b.three;go_wp2_with fail
 refine(zNE n n D w1.heap.size w2 (X.out.I c) k2 (xgf _) hR).mono ?_;rintro e w3 ⟨rfl,H⟩;have c:=nx c H;have b:=b.I H;have a:=a.I H;clear l k2;have l:=b.three;go_wp2_with fail
 refine(zNj C w3).mono ?_;rintro e w4 ⟨rfl,k4,I⟩;have c:=nx c I;have b:=b.I I;have a:=a.I I;clear l;go_wp2_with fail
 refine(zNE m C E w3.heap.size w4 (Y.out.I c) k4 hm hC).mono ?_;rintro e W ⟨rfl,J⟩;have c:=nx c J;have b:=b.I J;have a:=a.I J;have e8:=a.lt;clear k4;go_wp2_with fail
 refine(zJL n m W hR oM).mono ?_;rintro e w6 ⟨u,Z,rfl,⟨c8,A2,rfl,d⟩,q⟩;obtain⟨y,on,x,rfl,a8,-,-,-⟩:=id d.rows;obtain rfl:n=on:=by rw[<-a8];simp[zDi]
 clear a8;have b6:=d.lts;have e0:=c.size;have c:=nx c q;have b:=b.I q;have a:=a.I q;have q6:=q.size;go_upto_region 5 with(fail)
 refine zF ?_;intro W7 a3;obtain⟨p,g,d9⟩:=qJ a3;have b:=b.I p;have a:=a.I p;have d:=d.I p;rw[zFW n m f]at d;have c:=nx c p;have e7:=a.lt;have d7:=g.lt;clear a3;go_wp2;go_loopw [41] (fun T wr=>∃i:Nat,i<=n/\T=niq i/\BWq w wr/\Blk wr w.heap.size 32 #[niq n,niq C,.slice ao n a0]∧
  Blk wr (w.heap.size+1) 32 #[niq 0,niq 0,.slice none 0 0]/\Blk wr w6.heap.size 32 #[niq n,niq m,.slice y n x]/\qH wr W.heap.size (.slice y n x) m Z (genM n m (zH9 f i 0))) (fun T _=>n-(intOf T).toNat)
 case atStart=>exact⟨0,oM,rfl,c,b,a,g,d⟩
 obtain⟨i,hi,rfl,k,b,a,g,d⟩:=hrel;by_cases P:i<n
 .obtain⟨b4,ra,rn,rc,zs,rfl,d0,Q,V,hv⟩:=h.row (k:=i) (by rw[HX.out];exact P)
  have b2:=HF.out.2 zs (xgd Q);have b8:=hv.len;obtain rfl:C=rn:=oM;have A:=xgv (And.intro Q b2);have P1:=xgv V;obtain⟨b9,e1,e5⟩:=b8;have x1:=((X.out.I k).cell i).trans (zEe P);clear Q b2 b9 V;go_wp2;clear x1;go_loopw [48] (fun U wt=>∃j:Nat,j<=m/\U=niq j/\BWq w wt/\Blk wt w.heap.size 32 #[niq n,niq C,(slq b4 n a0)]∧
   Blk wt (w.heap.size+1) 32 #[niq 0,niq 0,.slice none 0 0]/\Blk wt w6.heap.size 32 #[niq n,niq m,.slice y n x]/\qH wt W.heap.size (.slice y n x) m Z (genM n m (zH9 f i j))) (fun U _=>m-(intOf U).toNat)
  case atStart=>exact⟨0,oM,rfl,k,b,a,g,d⟩
  rename World=>wt
  obtain⟨j,hj,rfl,k,b,a,g,d⟩:=hrel;by_cases s:j<m
  .obtain⟨b',z,f4,c5,e6,c6,rfl,c9,S,q1,f3,c0⟩:=(hv.I k).cell (k:=j) (by rw[A.out.2];omega)
   have b5:=xgw ((b3.out i j).trans (zFE A.out.1 S));have SZ:jI (Sm z):=⟨HS.out _ (xgd A.out.1) _ (xgd S)⟩;have x2:=((Y.out.I k).cell j).trans (zEe s);have V:=jP P1.out k;clear S;have f0:=a.lt;have e9:=b.lt;have f2:=g.lt;have d3:=k.size;have d4:j<C:=oM;go_upto_region 11 with(fail)
   clear x2;obtain⟨c7,bo,rfl,hg,K,d1,o1,b7⟩:=d.at_ (i:=i) oM;have f1:=g.three;have l:=b.three;clear b7;refine yA 16 [pcI 14 (z)] ?_;refine sRd ?_;refine sRc (fun wS hI Gk hG=>by go_simp;exact ck hG (zPK _ z _ (c0.ext hI.lext) SZ.out)) (fun f5 _=>?_);refine sRd ?_;refine sRe ?_;intro w9 o a4;obtain⟨pn,pa,pl,pc,px,rfl,a9⟩:=id a4;have c4:=xgw a9;clear a9;have a7:=d.I o;obtain⟨sn,sa,sl,sc,z1,z2,z3,z4,-⟩:=a7.cellAt K s;have d2:=b6 i bo K;have b0:=a7.set K s a4;go_wp2;go_roundw
   case rel=>
    have hq:z=f i j:=b5.out.symm;rw[hq,zIC P s]at b0;exact⟨j+1,oM,by simp,yB (yB (nx k o) oM _ _) oM _ _,(yL _ _ _ _ _ _ _ oM).trans (b.I o),(yL _ _ _ _ _ _ _ oM).trans (a.I o),(yL _ _ _ _ _ _ _ oM).trans (g.I o),b0.1⟩
   case measure=>exact meq
  obtain rfl:j=m:=oM;rw[zIB]at d;go_wp2;go_roundw
  case rel=>exact⟨i+1,oM,by simp,k,b,a,g,d⟩
  case measure=>exact meq
 obtain rfl:i=n:=oM;rw[zIA]at d;have f1:=g.three;have r1:=a.three;go_wp2;refine bodyPost_ret (zDh rfl _ rfl (a.put3 _ _ _) rfl) rfl ⟨_,rfl,⟨_,rfl,⟨_,rfl,?_⟩⟩,yB (yB (yB k oM 0 _) oM 1 _) oM 2 _⟩;exact(d.keep (fun c2 hk=>zAm _ _ c2 _ _ _ oM) (a.lext3 dE _ _ _)).rows
end Go.Proofs.YtkidaebmhlijlaaGreat
