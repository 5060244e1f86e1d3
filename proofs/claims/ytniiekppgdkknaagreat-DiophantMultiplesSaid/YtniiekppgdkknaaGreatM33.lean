/- torsionlaw14.DiophantMultiples: whatever the input, it returns true, and the input reads as it did. No conditions. -/
import Derived.Test.YtniiekppgdkknaaGreatM28
import Derived.Test.YtniiekppgdkknaaGreatM30
import Derived.Test.YtniiekppgdkknaaGreatM32
set_option linter.unusedVariables false
set_option linter.unusedSimpArgs false
set_option linter.unusedSectionVars false
set_option maxHeartbeats 16000000
set_option maxRecDepth 100000
variable{f:Bool}{l:List Int}{C R b n:Nat}{y:Nat->Int}{A:Nat->Nat->Int}{u v:Go.Value}{w:Go.World}
namespace Go.Proofs.YtniiekppgdkknaaGreat
open Go.RowKit
def lf(l:List Int)(j:Nat):Int:=l.getD j 0
theorem zMB(h:l.length=n):qQ n (lf l)=l:=by
 subst h;exact zKk l
theorem zR6{h:Nat}(a:(l.all fun z=>decide (z.natAbs<=h))=true)(j:Nat):(lf l j).natAbs<=h:=by
 unfold lf;rw[xgb];rcases hj:l[j]? with _|z
 exact zG _;exact jM (zW.1 a z (xgd hj))
def zJW(f:Bool)(R C:Nat)(A:Nat->Nat->Int)(y:Nat->Int)(w:World)(v:Value):Prop:=∃o n k o' n' k',v= .agg #[.bool f,.slice o n k,.slice o' n' k']/\zKR R C A y w v
def zRN(f:Bool)(R C:Nat)(A:Nat->Nat->Int)(y:Nat->Int)(w:World)(v:Value):Prop:=∃u,v= .tuple #[u,.int .i64 0]/\zJW f R C A y w u
theorem zJW.I{w':World}(h:zJW f R C A y w v)(b:Below w.heap.size w w'):zJW f R C A y w' v:=by
 obtain⟨o,n,k,g,d,c,e,a⟩:=h;exact⟨o,n,k,g,d,c,e,a.I b⟩
theorem zFy(f:Bool)(R C:Nat)(A:Nat->Nat->Int)(y:Nat->Int):zAA (zJW f R C A y):=fun _ _ _ e h=>h.I e
theorem zFz(f:Bool)(R C:Nat)(A:Nat->Nat->Int)(y:Nat->Int):zAA (zRN f R C A y):=fun _ _ _ e ⟨u,a,b⟩=>⟨u,a,b.I e⟩
theorem zKR.off3(h:zKR R C A y w u){T:TypeId}{cs:Array Value}(f:Blk w b T cs)(g:¬ T=tQ)(hI:¬ T=tI)(d:T≠tU)(i j k:Value):zKR R C A y (((w.setCell ⟨b,0,none⟩ i).setCell ⟨b,1,none⟩ j).setCell ⟨b,2,none⟩ k) u:=by
 rcases h with⟨l,x,e,a,c⟩|⟨m,q,e,a,c⟩
 exact .inl ⟨l,x,e,a.off3 f hI d _ _ _,c⟩;exact .inr ⟨m,q,e,a.off3 f g d _ _ _,c⟩
theorem zKR.kind(h:zKR R C A y w u)(c:f=true↔∃x,zLu R C A y x):zJW f R C A y w u:=by
 rcases id h with⟨e,x,rfl,b,a,-⟩|⟨g,q,rfl,d,a,-⟩
 .obtain rfl:f=true:=c.2 ⟨x,a⟩
  obtain⟨o,n,k,rfl,-⟩:=id b;exact⟨_,_,_,_,_,_,rfl,h⟩
 obtain rfl:f=false:=by
  cases f;rfl;obtain⟨x,b⟩:=c.1 rfl;exact(zSm b a).elim
 obtain⟨o,n,k,rfl,-⟩:=id d;exact⟨_,_,_,_,_,_,rfl,h⟩
theorem zJk(f:Bool)(a:List Int)(v b:Value)(R C:Nat)(M:List (List Int))(w:World)(m:zAo w v R C M)(hF:zBe R C M)(c:zAR w b a)(l:a.length=C)(h:R<=4)(g:C<=4)(d:leM 9 R C (ent M))(o:(a.all fun z=>decide (z.natAbs<=1000000))=true)(k:f=true↔∃x,zLu R C (ent M) (lf a) x):
  Calls Tryz.prog 10 #[v,b] w fun e w'=>∃u,e= .returned u/\zRN f R C (ent M) (lf a) w' u/\Below w.heap.size w w':=
 (zNz v b R C M (lf a) w m hF (by rw[zMB l];exact c) h g d fun j _=>zR6 o j).mono fun e w' ⟨u,i,n,c⟩=>⟨_,i,⟨u,rfl,n.kind k⟩,c⟩
theorem zVz(f:Nat->Int):yZ 1 f=f 0:=by simp[yZ]
theorem zUs(f:Nat->Int):yZ 2 f=f 0+f 1:=by simp[yZ]
theorem zWi(f:Nat->Int):yZ 3 f=f 0+f 1+f 2:=by simp[yZ]
theorem zPO{r:Nat}{c:Nat->Nat}{H U V:Nat->Nat->Int}(h:zD7 3 1 r c (ent [[6],[10],[15]]) H U V):leM 644972544 3 1 H:=fun i d j l=>by
 obtain rfl:j=0:=by omega
 have e:r<=1:=h.hnf.ech.le;by_cases g:r<=i
 .rw[h.hnf.zero i g d 0 dE]
  decide
 obtain rfl:i=0:=by omega
 have a:=h.back 0 dE 0 dE;rw[zWi,h.hnf.zero 1 e dE 0 dE,h.hnf.zero 2 oM dE 0 dE,show ent [[6],[10],[15]] 0 0=6 from rfl]at a;have b:H 0 0∣6:=⟨V 0 0,by rw[a,yN];omega⟩;have f:=zB6 dE (Int.natAbs_dvd_natAbs.2 b);have k:(6:Int).natAbs=6:=rfl;omega
theorem zTz(v a:Value)(w:World)(f:zAo w v (3:Nat) (1:Nat) [[6],[10],[15]])(b:zAR w a [1]):
  Calls Tryz.prog 10 #[v,a] w fun e w'=>∃u,e= .returned u/\zRN true 3 1 (ent [[6],[10],[15]]) (lf [1]) w' u/\Below w.heap.size w w':=
 (zIw (M0:=15) dE dE v a 3 1 [[6],[10],[15]] (lf [1]) w f ⟨rfl,by simp⟩ b dE dE (zGp dE ⟨rfl,by simp⟩) (fun r c H U V h=>zPO h) fun j _=>zR6 dE j).mono fun e w' ⟨u,d,g,b⟩=>⟨_,d,⟨u,rfl,g.kind ⟨fun _=>⟨lf [-14,7,1],fun j i=>by
  obtain rfl:j=0:=by omega
  decide⟩,fun _=>rfl⟩⟩,b⟩
theorem zVc:true=true↔∃x,zLu 2 2 (ent [[2,0],[0,3]]) (lf [4,3]) x:=⟨fun _=>⟨lf [2,1],show ∀j,j<2->_ by decide⟩,fun _=>rfl⟩
theorem zVd:false=true↔∃x,zLu 2 2 (ent [[2,0],[0,3]]) (lf [1,0]) x:=⟨nofun,fun⟨x,h⟩=>by
 have a:=h 0 dE;rw[zUs,show lf [1,0] 0=1 from rfl,show ent [[2,0],[0,3]] 0 0=2 from rfl,show ent [[2,0],[0,3]] 1 0=0 from rfl]at a;omega⟩
theorem zVe:false=true↔∃x,zLu 1 2 (ent [[1,1]]) (lf [1,2]) x:=⟨nofun,fun⟨x,h⟩=>by
 have a:=h 0 dE;have b:=h 1 dE;rw[zVz,show lf [1,2] 0=1 from rfl,show ent [[1,1]] 0 0=1 from rfl]at a;rw[zVz,show lf [1,2] 1=2 from rfl,show ent [[1,1]] 0 1=1 from rfl]at b;omega⟩
theorem zVf:true=true↔∃x,zLu 0 0 (ent []) (lf []) x:=⟨fun _=>⟨lf [],fun j a=>by omega⟩,fun _=>rfl⟩
theorem zJW.vec{o l:Option Addr}{k j i:Nat}(h:zJW true 2 2 (ent [[2,0],[0,3]]) (lf [4,3]) w (.agg #[.bool true,.slice o n k,.slice l j i])):zAR w (.slice o n k) [2,1]:=by
 obtain⟨-,-,-,-,-,-,-,h⟩:=h;rcases h with⟨m,x,e,c,b,-⟩|⟨p,q,e,-⟩
 .obtain rfl:m= .slice o n k:=by
   injection e with e
   injection e with e
   injection e with a e
   injection e with d e
   exact d.symm
  have f:=b 0 dE;have g:=b 1 dE;rw[zUs,show lf [4,3] 0=4 from rfl,show ent [[2,0],[0,3]] 0 0=2 from rfl,show ent [[2,0],[0,3]] 1 0=0 from rfl]at f;rw[zUs,show lf [4,3] 1=3 from rfl,show ent [[2,0],[0,3]] 0 1=0 from rfl,show ent [[2,0],[0,3]] 1 1=3 from rfl]at g;have a:qQ 2 x= [x 0,x 1]:=rfl;rw[a,show x 0=2 by omega,show x 1=1 by omega]at c;exact c
 injection e with e
 injection e with e
 injection e with a e
 injection a with a
 cases a
theorem zSi(a b:Value)(xs:List Int)(w:World)(c:zAR w a xs)(d:zAR w b xs):
  Calls Tryz.prog 20 #[a,b] w fun e w'=>∃u,e= .returned u/\u= .bool true/\Below w.heap.size w w':=
 (zIU a b xs xs w c d).mono fun e w' ⟨h,f⟩=>⟨_,h,by rw[zT rfl],f⟩
theorem zUe{s t u v:Bool}{c d e f:Option Addr}{l m n o g h i j:Nat}{p q:Rat}(B:Blk w b tQ #[.bool s,.slice c l g,.bool t,.slice d m h,.bool u,.slice e n i,.bool v,.slice f o j])
  (z:zAx w (.agg #[.bool s,.slice c l g,.bool t,.slice d m h]) p) (A:zAx w (.agg #[.bool u,.slice e n i,.bool v,.slice f o j]) q):zDE w (.slice (some ⟨b,0,none⟩) 2 2) [prQ p,prQ q]:=by
 obtain⟨_,_,_,_,_,_,_,_,x,C,D⟩:=z;obtain⟨_,_,_,_,_,_,_,_,y,E,F⟩:=A;cases x;cases y;refine⟨_,2,2,rfl,rfl,xgf _,by decide,fun _=>⟨b,rfl,_,B,fun k r a=>?_⟩⟩;rcases k with _|_|k
 .obtain rfl:prQ p=r:=by simpa using a
  exact⟨_,_,_,_,_,_,_,_,rfl,rfl,rfl,rfl,C,D⟩
 .obtain rfl:prQ q=r:=by simpa using a
  exact⟨_,_,_,_,_,_,_,_,rfl,rfl,rfl,rfl,E,F⟩
 simp at a
theorem zRn: [prQ (Rat.divInt 1 2),prQ ((0:Int):Rat)]= [(1,2),(0,1)]:=by decide+kernel
theorem zLy(i:Bool)(a:List Int)(b:List (Int × Int))(f c g:Value)(w:World)(n:zAo w f (2:Nat) (2:Nat) [[2,0],[0,3]])(l:zAR w c a)(m:a.length=2)(d:zDE w g b)(o:(b.all fun p=>decide (p.1.natAbs<2^20/\p.2.natAbs<2^20))=true)(q:(a.all fun z=>decide (z.natAbs<=1000000))=true)(k:zVP false 2 2 (ent [[2,0],[0,3]]) (lf a) [] b=i):
  Calls Tryz.prog 22 #[f,c,.agg #[.bool false,.slice none 0 0,g]] w fun e w'=>∃u,e= .returned u/\u= .bool i/\Below w.heap.size w w':=
 k ▸ zNv (e:=20) (h:=20) false f c (.slice none 0 0) g 2 2 _ (lf a) [] b w n ⟨rfl,by simp⟩ (by rw[zMB m];exact l) (zAR.nil w) d dE dE (fun h=>absurd h dE) (fun p d=>jM (zW.1 o p d)) dE (fun j _=>zWb (zR6 q j)) dE dE
theorem zRo:zVP false 2 2 (ent [[2,0],[0,3]]) (lf [1,0]) [] [(1,2),(0,1)]=true:=by decide+kernel
theorem zUD:zVP false 2 2 (ent [[2,0],[0,3]]) (lf [2,0]) [] [(1,2),(0,1)]=false:=by decide+kernel
theorem zUX:zVP false 2 2 (ent [[2,0],[0,3]]) (lf [4,3]) [] []=false:=by decide+kernel
theorem zW3(R C:Nat)(M:List (List Int))(a:List Int)(d b u:Value)(w:World)(c:zJW false R C (ent M) (lf a) w u)(l:zAo w d R C M)(hF:zBe R C M)(i:zAR w b a)(k:a.length=C)(h:R<=4)(g:C<=4)(f:leM 1000 R C (ent M))(m:(a.all fun z=>decide (z.natAbs<=1000000))=true):
  Calls Tryz.prog 21 #[d,b,u] w fun e w'=>∃u,e= .returned u/\u= .bool true/\Below w.heap.size w w':=by
 obtain⟨-,-,-,-,-,-,-,c⟩:=c;exact zSn d b u R C M (lf a) w c l hF (by rw[zMB k];exact i) h g f fun j _=>zR6 m j
theorem zDu{W:World}(h:zA5 [] W w):Below W.heap.size W w:=⟨h.bel.os,h.bel.tape,h.bel.output,h.bel.size,fun k a=>h.old k a sI⟩
theorem zJM(h:zRN f R C A y w v):∃o n k c b a,v= .tuple #[.agg #[.bool f,.slice o n k,.slice c b a],.int .i64 0]/\zJW f R C A y w (.agg #[.bool f,.slice o n k,.slice c b a]):=by
 obtain⟨u,rfl,o,n,k,c,b,a,rfl,h⟩:=h;exact⟨o,n,k,c,b,a,rfl,o,n,k,c,b,a,rfl,h⟩
theorem zLA(w:World):Calls Tryz.prog 4 #[] w fun e w'=>e= .returned (.bool true)/\Below w.heap.size w w':=by
 go_enter Tryz.func4,Tryz.ntmps4;have g:=zB w.heap.size w;go_wp2_with fail
 refine(zRx _ [2,0,0,3] 2 2 _ _ [[2,0],[0,3]] _ (zEt.new _ [2,0,0,3] dE dE) (by rfl) (by rfl) (by rfl) oM oM (by rfl)).mono ?_;rintro e D ⟨v1,rfl,B,a⟩;have g:=nxa g a;obtain⟨e7,e6,e5,rfl⟩:=B.agg;have d:=xgv B;clear B;go_wp2_with fail
 refine(zRx _ [1,1] 1 2 _ _ [[1,1]] _ (zEt.new _ [1,1] dE dE) (by rfl) (by rfl) (by rfl) oM oM (by rfl)).mono ?_;rintro e wb ⟨v1,rfl,B,a⟩;have g:=nxa g a;obtain⟨f0,e9,e8,rfl⟩:=B.agg;have a:=nxd a;have d:=xgv (d.out.I a);have h:=xgv B;clear B;go_upto_region 2 with(fail)
 refine zE ?_;intro W1 l0;obtain⟨g7,i,j,t1⟩:=jW l0;have g:=nx g g7;have d:=xgv (d.out.I g7);have h:=xgv (h.out.I g7);clear l0;have t0:=zDe [4,3];have s6:=zDe [1,0];have s7:=zDe [1,2];have v3:=zAX [4,3];have t7:=zAX [1,0];have t9:=zAX [1,2];have p0:=zFz true 2 2 (ent [[2,0],[0,3]]) (lf [4,3]);have o0:=zFy true 2 2 (ent [[2,0],[0,3]]) (lf [4,3]);have o6:=zED 44 W1.heap.size #[.bool false,.slice none 0 0,.slice none 0 0];obtain⟨E,F,G,-,-,-⟩:=i.three;have i0:=i.lt;refine zBF 9 rfl (RAS ([]) 99 W1 _ [⟨0,23,fun _ v=>v= .agg #[.int .i64 (2:Nat),.int .i64 (2:Nat),.slice e7 e6 e5]⟩,⟨1,24,fun w v=>zEt w v [4,3]⟩,⟨2,25,fun w v=>zAR w v [4,3]⟩,⟨3,26,zRN true 2 2 (ent [[2,0],[0,3]]) (lf [4,3])⟩,⟨4,22,zRN true 2 2 (ent [[2,0],[0,3]]) (lf [4,3])⟩,⟨5,27,zJW true 2 2 (ent [[2,0],[0,3]]) (lf [4,3])⟩,⟨6,28,fun _ v=>v= .int .i64 0⟩,⟨7,3,zTf 44 W1.heap.size #[.bool false,.slice none 0 0,.slice none 0 0]⟩] 8 (put3 3 27)) kR (zBt (zCK kR (by repeat' (first|exact zBU _|exact zBs _|exact zAl _ _ _|exact zAX _|assumption|refine xgm.2 ⟨?_,?_⟩|exact xgn _)))) ?fin1 ?steps1
 case steps1=>
  refine⟨?_,?_,?_,?_,?_,?_,?_,?_,?_,trivial⟩
  .refine zV.liftA kR dE ?_
   intro L T b c hd l hI K hK;try refine zD rfl ?_
   have zt:T[1]?=some (.pointer (some ⟨wb.heap.size,0,none⟩)):=hI.keep 1 sI;have f9:=hI.cell (sI) oM E;have g1:=hI.cell (sI) oM F;have g4:=hI.cell (sI) oM G;go_simp;exact hK _ _ (hI.y mm0 rfl)
  .refine zV.liftA kR dE ?_
   intro L T b c hd l hI K hK;try refine zD rfl ?_
   go_simp;exact hK _ _ ((hI.world ((zB _ _).alloc (xgf _) _)).y mm1 (zEt.new _ [4,3] dE dE))
  .refine zV.liftA kR dE ?_
   intro L T b c hd l hI K hK;try refine zD rfl ?_
   obtain⟨z1,k6,a7⟩:=hI.v mm1 (hd 1);go_simp;refine(zCO _ [4,3] _ a7 dE).mono ?_;rintro e D ⟨v,rfl,f,p⟩;exact hK _ _ ((hI.world p).y mm2 f)
  .refine zV.liftA kR dE ?_
   intro L T b c hd l hI K hK;try refine zD rfl ?_
   obtain⟨_,k4,rfl⟩:=hI.v mm0 (hd 0);obtain⟨z2,k7,a8⟩:=hI.v mm2 (hd 2);have a5:=zDu hI.onl;go_simp;refine(zJk true [4,3] _ _ 2 2 [[2,0],[0,3]] _ (d.out.I a5) ⟨rfl,by simp⟩ a8 rfl dE dE (zGp dE ⟨rfl,by simp⟩) dE zVc).mono ?_;rintro e D ⟨v,rfl,f,p⟩;exact hK _ _ ((hI.world p).y mm3 f)
  .refine zV.liftA kR dE ?_
   intro L T b c hd l hI K hK;try refine zD rfl ?_
   obtain⟨z3,k8,c6⟩:=hI.v mm3 (hd 3);go_simp;exact hK _ _ (hI.y mm4 c6)
  .refine zV.liftA kR dE ?_
   intro L T b c hd l hI K hK;try refine zD rfl ?_
   obtain⟨z4,b8,R⟩:=hI.v mm4 (hd 4);obtain⟨u,rfl,hu⟩:=R;go_simp;exact hK _ _ (hI.y mm5 hu)
  .intro L T b c hd l hI K hK
   try refine zD rfl ?_
   obtain⟨w0,z,-,-⟩:=id hI;obtain⟨z4,b8,R⟩:=z.val _ mm4 (hd 4);obtain⟨u,rfl,hu⟩:=R;go_simp;exact hK _ _ (hI.pure ⟨6,28,_⟩ mm6 rfl (fun _=>rfl) dE (fun _=>zHf dE dE))
  .refine zV.liftA kR dE ?_
   intro L T b c hd l hI K hK;try refine zD rfl ?_
   go_simp;exact hK _ _ ((hI.world ((zB _ _).alloc (xgf _) _)).y mm7 ⟨_,rfl,hI.onl.bel.size,yJ _ _ _⟩)
  intro L T b c hd l hI K hK;try refine zD rfl ?_
  replace hI:=hI.here c;obtain⟨n9,b5,c5⟩:=hI.v mm5 (hd 5);obtain⟨k1,b6,Y⟩:=hI.v mm7 (hd 7);obtain⟨vo,vn,vc,uo,un,uc,rfl,-⟩:=c5;obtain⟨b7,rfl,-,T7⟩:=Y;obtain⟨f1,f2,f3,f4,f5,f6⟩:=T7.three;go_simp;exact hK _ _ (zBu hI c (by repeat' (first|exact xgn _|refine xgm.2 ⟨by dsimp only;decide,?_⟩)) dE (zE4 b6 b5).symm)
 intro T a2 z;obtain⟨x2,hI,-,d5⟩:=z;replace d5:=d5 kR;obtain⟨i9,S,rfl⟩:=hI.v mm0 rfl;obtain⟨b0,U,g8⟩:=hI.v mm1 rfl;obtain⟨b3,J,g9⟩:=hI.v mm2 rfl;obtain⟨b9,M,l4⟩:=hI.v mm3 rfl;obtain⟨c0,V,l5⟩:=hI.v mm4 rfl;obtain⟨a1,N,C⟩:=hI.v mm5 rfl;obtain⟨k0,O,rfl⟩:=hI.v mm6 rfl;obtain⟨b4,W,a4⟩:=hI.v mm7 rfl;have P:=zCW [(23,.agg #[.int .i64 (2:Nat),.int .i64 (2:Nat),.slice e7 e6 e5]),(24,b0),(25,b3),(26,b9),(22,c0),(27,a1),(28,.int .i64 0),(3,b4)]
  (fun a9 Q=>hI.keep a9 (by simp only[xgm]at Q ⊢;simp[Q]))
  (by simp only[xgm];simp[S,U,J,M,V,N,O,W]) hI.size
 have l6:=hI.onl;clear hI;simp only[List.foldl_cons,List.foldl_nil,xgh,xgi,xgj,ptr]at P;subst P;clear S U J M V N O W;simp only[xgl,xgk];have h0:=zDu l6;replace C:zJW true 2 2 (ent [[2,0],[0,3]]) (lf [4,3]) x2 a1:=C;obtain⟨o2,n2,k2,i6,i3,h7,rfl,c9⟩:=id C;obtain⟨g2,rfl,s1,T2⟩:=a4;have J:=h0.size;have d9:=d5.trans (zE4 rfl rfl);have n:Blk a2 g2 44 #[.bool true,.slice o2 n2 k2,.slice i6 i3 h7]:=by rw[d9];exact T2.put3 _ _ _
 have c4:Below W1.heap.size W1 a2:=by
  rw[d9];exact yM (yM (yM h0 oM 0 _) oM 1 _) oM 2 _
 have c9:zKR 2 2 (ent [[2,0],[0,3]]) (lf [4,3]) a2 (.agg #[.bool true,.slice o2 n2 k2,.slice i6 i3 h7]):=by
  rw[d9];exact c9.off3 T2 dE dE dE _ _ _
 have m:=xgv (show zJW true 2 2 (ent [[2,0],[0,3]]) (lf [4,3]) a2 (.agg #[.bool true,.slice o2 n2 k2,.slice i6 i3 h7]) from⟨_,_,_,_,_,_,rfl,c9⟩);have g:=nx g c4;have d:=xgv (d.out.I c4);have h:=xgv (h.out.I c4);have i:=i.I c4;have j:=j.I c4;clear E F G C T2 d9 d5 l6 h0 c9 p0 o0 o6;go_upto_region 3 with(fail)
 have p9:=zFz false 2 2 (ent [[2,0],[0,3]]) (lf [1,0]);have o1:=zFy false 2 2 (ent [[2,0],[0,3]]) (lf [1,0]);have o7:=zED 44 a2.heap.size #[.bool false,.slice none 0 0,.slice none 0 0];obtain⟨E,F,G,-,-,-⟩:=i.three;have i0:=i.lt;refine zBF 9 rfl (RAS ([]) 99 a2 _ [⟨0,30,fun _ v=>v= .agg #[.int .i64 (2:Nat),.int .i64 (2:Nat),.slice e7 e6 e5]⟩,⟨1,31,fun w v=>zEt w v [1,0]⟩,⟨2,32,fun w v=>zAR w v [1,0]⟩,⟨3,33,zRN false 2 2 (ent [[2,0],[0,3]]) (lf [1,0])⟩,⟨4,29,zRN false 2 2 (ent [[2,0],[0,3]]) (lf [1,0])⟩,⟨5,34,zJW false 2 2 (ent [[2,0],[0,3]]) (lf [1,0])⟩,⟨6,35,fun _ v=>v= .int .i64 0⟩,⟨7,5,zTf 44 a2.heap.size #[.bool false,.slice none 0 0,.slice none 0 0]⟩] 8 (put3 5 34)) kR (zBt (zCK kR (by repeat' (first|exact zBU _|exact zBs _|exact zAl _ _ _|exact zAX _|assumption|refine xgm.2 ⟨?_,?_⟩|exact xgn _)))) ?fin2 ?steps2
 case steps2=>
  refine⟨?_,?_,?_,?_,?_,?_,?_,?_,?_,trivial⟩
  .refine zV.liftA kR dE ?_
   intro L T b c hd l hI K hK;try refine zD rfl ?_
   have zt:T[1]?=some (.pointer (some ⟨wb.heap.size,0,none⟩)):=hI.keep 1 sI;have f9:=hI.cell (sI) oM E;have g1:=hI.cell (sI) oM F;have g4:=hI.cell (sI) oM G;go_simp;exact hK _ _ (hI.y mm0 rfl)
  .refine zV.liftA kR dE ?_
   intro L T b c hd l hI K hK;try refine zD rfl ?_
   go_simp;exact hK _ _ ((hI.world ((zB _ _).alloc (xgf _) _)).y mm1 (zEt.new _ [1,0] dE dE))
  .refine zV.liftA kR dE ?_
   intro L T b c hd l hI K hK;try refine zD rfl ?_
   obtain⟨z1,k6,a7⟩:=hI.v mm1 (hd 1);go_simp;refine(zCO _ [1,0] _ a7 dE).mono ?_;rintro e D ⟨v,rfl,f,p⟩;exact hK _ _ ((hI.world p).y mm2 f)
  .refine zV.liftA kR dE ?_
   intro L T b c hd l hI K hK;try refine zD rfl ?_
   obtain⟨_,k4,rfl⟩:=hI.v mm0 (hd 0);obtain⟨z2,k7,a8⟩:=hI.v mm2 (hd 2);have a5:=zDu hI.onl;go_simp;refine(zJk false [1,0] _ _ 2 2 [[2,0],[0,3]] _ (d.out.I a5) ⟨rfl,by simp⟩ a8 rfl dE dE (zGp dE ⟨rfl,by simp⟩) dE zVd).mono ?_;rintro e D ⟨v,rfl,f,p⟩;exact hK _ _ ((hI.world p).y mm3 f)
  .refine zV.liftA kR dE ?_
   intro L T b c hd l hI K hK;try refine zD rfl ?_
   obtain⟨z3,k8,c6⟩:=hI.v mm3 (hd 3);go_simp;exact hK _ _ (hI.y mm4 c6)
  .refine zV.liftA kR dE ?_
   intro L T b c hd l hI K hK;try refine zD rfl ?_
   obtain⟨z4,b8,R⟩:=hI.v mm4 (hd 4);obtain⟨u,rfl,hu⟩:=R;go_simp;exact hK _ _ (hI.y mm5 hu)
  .intro L T b c hd l hI K hK
   try refine zD rfl ?_
   obtain⟨w0,z,-,-⟩:=id hI;obtain⟨z4,b8,R⟩:=z.val _ mm4 (hd 4);obtain⟨u,rfl,hu⟩:=R;go_simp;exact hK _ _ (hI.pure ⟨6,35,_⟩ mm6 rfl (fun _=>rfl) dE (fun _=>zHf dE dE))
  .refine zV.liftA kR dE ?_
   intro L T b c hd l hI K hK;try refine zD rfl ?_
   go_simp;exact hK _ _ ((hI.world ((zB _ _).alloc (xgf _) _)).y mm7 ⟨_,rfl,hI.onl.bel.size,yJ _ _ _⟩)
  intro L T b c hd l hI K hK;try refine zD rfl ?_
  replace hI:=hI.here c;obtain⟨n9,b5,c5⟩:=hI.v mm5 (hd 5);obtain⟨k1,b6,Y⟩:=hI.v mm7 (hd 7);obtain⟨vo,vn,vc,uo,un,uc,rfl,-⟩:=c5;obtain⟨b7,rfl,-,T7⟩:=Y;obtain⟨f1,f2,f3,f4,f5,f6⟩:=T7.three;go_simp;exact hK _ _ (zBu hI c (by repeat' (first|exact xgn _|refine xgm.2 ⟨by dsimp only;decide,?_⟩)) dE (zE4 b6 b5).symm)
 intro T f7 z;obtain⟨x3,hI,-,d6⟩:=z;replace d6:=d6 kR;obtain⟨i9,S,rfl⟩:=hI.v mm0 rfl;obtain⟨b0,U,g8⟩:=hI.v mm1 rfl;obtain⟨b3,J,g9⟩:=hI.v mm2 rfl;obtain⟨b9,M,l4⟩:=hI.v mm3 rfl;obtain⟨c0,V,l5⟩:=hI.v mm4 rfl;obtain⟨a1,N,C⟩:=hI.v mm5 rfl;obtain⟨k0,O,rfl⟩:=hI.v mm6 rfl;obtain⟨b4,W,a4⟩:=hI.v mm7 rfl;have P:=zCW [(30,.agg #[.int .i64 (2:Nat),.int .i64 (2:Nat),.slice e7 e6 e5]),(31,b0),(32,b3),(33,b9),(29,c0),(34,a1),(35,.int .i64 0),(5,b4)]
  (fun a9 Q=>hI.keep a9 (by simp only[xgm]at Q ⊢;simp[Q]))
  (by simp only[xgm];simp[S,U,J,M,V,N,O,W]) hI.size
 have l7:=hI.onl;clear hI;simp only[List.foldl_cons,List.foldl_nil,xgh,xgi,xgj,ptr]at P;subst P;clear S U J M V N O W;simp only[xgl,xgk];have h1:=zDu l7;replace C:zJW false 2 2 (ent [[2,0],[0,3]]) (lf [1,0]) x3 a1:=C;obtain⟨o3,n3,k3,i7,i4,h8,rfl,d0⟩:=id C;obtain⟨g3,rfl,s2,T3⟩:=a4;have M:=h1.size;have e0:=d6.trans (zE4 rfl rfl);have o:Blk f7 g3 44 #[.bool false,.slice o3 n3 k3,.slice i7 i4 h8]:=by rw[e0];exact T3.put3 _ _ _
 have a6:Below a2.heap.size a2 f7:=by
  rw[e0];exact yM (yM (yM h1 oM 0 _) oM 1 _) oM 2 _
 have d0:zKR 2 2 (ent [[2,0],[0,3]]) (lf [1,0]) f7 (.agg #[.bool false,.slice o3 n3 k3,.slice i7 i4 h8]):=by
  rw[e0];exact d0.off3 T3 dE dE dE _ _ _
 have HB:=xgv (show zJW false 2 2 (ent [[2,0],[0,3]]) (lf [1,0]) f7 (.agg #[.bool false,.slice o3 n3 k3,.slice i7 i4 h8]) from⟨_,_,_,_,_,_,rfl,d0⟩);have g:=nx g a6;have d:=xgv (d.out.I a6);have h:=xgv (h.out.I a6);have i:=i.I a6;have j:=j.I a6;have m:=xgv (m.out.I a6);have n:=n.I a6;clear E F G C T3 e0 d6 l7 h1 d0 p9 o1 o7;go_wp2_with fail
 refine(zRx _ [6,10,15] 3 1 _ _ [[6],[10],[15]] _ (zEt.new _ [6,10,15] dE dE) (by rfl) (by rfl) (by rfl) oM oM (by rfl)).mono ?_;rintro e wc ⟨v1,rfl,B,a⟩;have g:=nxa g a;obtain⟨x4,x1,x0,rfl⟩:=B.agg;have a:=nxd a;have d:=xgv (d.out.I a);have h:=xgv (h.out.I a);have i:=i.I a;have j:=j.I a;have m:=xgv (m.out.I a);have n:=n.I a;have HB:=xgv (HB.out.I a);have o:=o.I a;have HC:=xgv B;clear B;go_wp2_with fail
 refine(zCO _ [1] _ (zEt.new _ [1] dE dE) dE).mono ?_;rintro e wd ⟨v1,rfl,f,a⟩;have g:=nxa g a;have a:=nxd a;have d:=xgv (d.out.I a);have h:=xgv (h.out.I a);have i:=i.I a;have j:=j.I a;have m:=xgv (m.out.I a);have n:=n.I a;have HB:=xgv (HB.out.I a);have o:=o.I a;have HC:=xgv (HC.out.I a);have HV:=xgv f;clear f;go_wp2_with fail
 refine(zTz _ _ wd HC.out HV.out).mono ?_;rintro e we ⟨_,rfl,hs,a⟩;obtain⟨co,cn,r7,s0,r9,r8,rfl,-⟩:=zJM hs;have g:=nx g a;have d:=xgv (d.out.I a);have h:=xgv (h.out.I a);have i:=i.I a;have j:=j.I a;have m:=xgv (m.out.I a);have n:=n.I a;have HB:=xgv (HB.out.I a);have o:=o.I a;clear hs HV HC;go_upto_region 5 with(fail)
 refine zE ?_;intro W4 l1;obtain⟨a0,q,t3⟩:=qL l1;have g:=nx g a0;have d:=xgv (d.out.I a0);have h:=xgv (h.out.I a0);have i:=i.I a0;have j:=j.I a0;have m:=xgv (m.out.I a0);have n:=n.I a0;have HB:=xgv (HB.out.I a0);have o:=o.I a0;clear l1;have r0:=zFz false 1 2 (ent [[1,1]]) (lf [1,2]);have o4:=zFy false 1 2 (ent [[1,1]]) (lf [1,2]);have o8:=zED 44 W4.heap.size #[.bool false,.slice none 0 0,.slice none 0 0];obtain⟨E,F,G,-,-,-⟩:=j.three;have i0:=j.lt;refine zBF 9 rfl (RAS ([]) 99 W4 _ [⟨0,45,fun _ v=>v= .agg #[.int .i64 (1:Nat),.int .i64 (2:Nat),.slice f0 e9 e8]⟩,⟨1,46,fun w v=>zEt w v [1,2]⟩,⟨2,47,fun w v=>zAR w v [1,2]⟩,⟨3,48,zRN false 1 2 (ent [[1,1]]) (lf [1,2])⟩,⟨4,44,zRN false 1 2 (ent [[1,1]]) (lf [1,2])⟩,⟨5,49,zJW false 1 2 (ent [[1,1]]) (lf [1,2])⟩,⟨6,50,fun _ v=>v= .int .i64 0⟩,⟨7,9,zTf 44 W4.heap.size #[.bool false,.slice none 0 0,.slice none 0 0]⟩] 8 (put3 9 49)) kR (zBt (zCK kR (by repeat' (first|exact zBU _|exact zBs _|exact zAl _ _ _|exact zAX _|assumption|refine xgm.2 ⟨?_,?_⟩|exact xgn _)))) ?fin3 ?steps3
 case steps3=>
  refine⟨?_,?_,?_,?_,?_,?_,?_,?_,?_,trivial⟩
  .refine zV.liftA kR dE ?_
   intro L T b c hd l hI K hK;try refine zD rfl ?_
   have zt:T[2]?=some (.pointer (some ⟨wb.heap.size+1,0,none⟩)):=hI.keep 2 sI;have f9:=hI.cell (sI) oM E;have g1:=hI.cell (sI) oM F;have g4:=hI.cell (sI) oM G;go_simp;exact hK _ _ (hI.y mm0 rfl)
  .refine zV.liftA kR dE ?_
   intro L T b c hd l hI K hK;try refine zD rfl ?_
   go_simp;exact hK _ _ ((hI.world ((zB _ _).alloc (xgf _) _)).y mm1 (zEt.new _ [1,2] dE dE))
  .refine zV.liftA kR dE ?_
   intro L T b c hd l hI K hK;try refine zD rfl ?_
   obtain⟨z1,k6,a7⟩:=hI.v mm1 (hd 1);go_simp;refine(zCO _ [1,2] _ a7 dE).mono ?_;rintro e D ⟨v,rfl,f,p⟩;exact hK _ _ ((hI.world p).y mm2 f)
  .refine zV.liftA kR dE ?_
   intro L T b c hd l hI K hK;try refine zD rfl ?_
   obtain⟨_,k4,rfl⟩:=hI.v mm0 (hd 0);obtain⟨z2,k7,a8⟩:=hI.v mm2 (hd 2);have a5:=zDu hI.onl;go_simp;refine(zJk false [1,2] _ _ 1 2 [[1,1]] _ (h.out.I a5) ⟨rfl,by simp⟩ a8 rfl dE dE (zGp dE ⟨rfl,by simp⟩) dE zVe).mono ?_;rintro e D ⟨v,rfl,f,p⟩;exact hK _ _ ((hI.world p).y mm3 f)
  .refine zV.liftA kR dE ?_
   intro L T b c hd l hI K hK;try refine zD rfl ?_
   obtain⟨z3,k8,c6⟩:=hI.v mm3 (hd 3);go_simp;exact hK _ _ (hI.y mm4 c6)
  .refine zV.liftA kR dE ?_
   intro L T b c hd l hI K hK;try refine zD rfl ?_
   obtain⟨z4,b8,R⟩:=hI.v mm4 (hd 4);obtain⟨u,rfl,hu⟩:=R;go_simp;exact hK _ _ (hI.y mm5 hu)
  .intro L T b c hd l hI K hK
   try refine zD rfl ?_
   obtain⟨w0,z,-,-⟩:=id hI;obtain⟨z4,b8,R⟩:=z.val _ mm4 (hd 4);obtain⟨u,rfl,hu⟩:=R;go_simp;exact hK _ _ (hI.pure ⟨6,50,_⟩ mm6 rfl (fun _=>rfl) dE (fun _=>zHf dE dE))
  .refine zV.liftA kR dE ?_
   intro L T b c hd l hI K hK;try refine zD rfl ?_
   go_simp;exact hK _ _ ((hI.world ((zB _ _).alloc (xgf _) _)).y mm7 ⟨_,rfl,hI.onl.bel.size,yJ _ _ _⟩)
  intro L T b c hd l hI K hK;try refine zD rfl ?_
  replace hI:=hI.here c;obtain⟨n9,b5,c5⟩:=hI.v mm5 (hd 5);obtain⟨k1,b6,Y⟩:=hI.v mm7 (hd 7);obtain⟨vo,vn,vc,uo,un,uc,rfl,-⟩:=c5;obtain⟨b7,rfl,-,T7⟩:=Y;obtain⟨f1,f2,f3,f4,f5,f6⟩:=T7.three;go_simp;exact hK _ _ (zBu hI c (by repeat' (first|exact xgn _|refine xgm.2 ⟨by dsimp only;decide,?_⟩)) dE (zE4 b6 b5).symm)
 intro T a3 z;obtain⟨x5,hI,-,d7⟩:=z;replace d7:=d7 kR;obtain⟨i9,S,rfl⟩:=hI.v mm0 rfl;obtain⟨b0,U,g8⟩:=hI.v mm1 rfl;obtain⟨b3,J,g9⟩:=hI.v mm2 rfl;obtain⟨b9,M,l4⟩:=hI.v mm3 rfl;obtain⟨c0,V,l5⟩:=hI.v mm4 rfl;obtain⟨a1,N,C⟩:=hI.v mm5 rfl;obtain⟨k0,O,rfl⟩:=hI.v mm6 rfl;obtain⟨b4,W,a4⟩:=hI.v mm7 rfl;have P:=zCW [(45,.agg #[.int .i64 (1:Nat),.int .i64 (2:Nat),.slice f0 e9 e8]),(46,b0),(47,b3),(48,b9),(44,c0),(49,a1),(50,.int .i64 0),(9,b4)]
  (fun a9 Q=>hI.keep a9 (by simp only[xgm]at Q ⊢;simp[Q]))
  (by simp only[xgm];simp[S,U,J,M,V,N,O,W]) hI.size
 have l8:=hI.onl;clear hI;simp only[List.foldl_cons,List.foldl_nil,xgh,xgi,xgj,ptr]at P;subst P;clear S U J M V N O W;simp only[xgl,xgk];have h2:=zDu l8;replace C:zJW false 1 2 (ent [[1,1]]) (lf [1,2]) x5 a1:=C;obtain⟨o5,n5,k5,i8,i5,h9,rfl,d4⟩:=id C;obtain⟨g5,rfl,s3,T5⟩:=a4;have N:=h2.size;have e4:=d7.trans (zE4 rfl rfl);have r:Blk a3 g5 44 #[.bool false,.slice o5 n5 k5,.slice i8 i5 h9]:=by rw[e4];exact T5.put3 _ _ _
 have X:Below W4.heap.size W4 a3:=by
  rw[e4];exact yM (yM (yM h2 oM 0 _) oM 1 _) oM 2 _
 have d4:zKR 1 2 (ent [[1,1]]) (lf [1,2]) a3 (.agg #[.bool false,.slice o5 n5 k5,.slice i8 i5 h9]):=by
  rw[e4];exact d4.off3 T5 dE dE dE _ _ _
 have t:=xgv (show zJW false 1 2 (ent [[1,1]]) (lf [1,2]) a3 (.agg #[.bool false,.slice o5 n5 k5,.slice i8 i5 h9]) from⟨_,_,_,_,_,_,rfl,d4⟩);have g:=nx g X;have d:=xgv (d.out.I X);have h:=xgv (h.out.I X);have i:=i.I X;have j:=j.I X;have m:=xgv (m.out.I X);have n:=n.I X;have HB:=xgv (HB.out.I X);have o:=o.I X;have q:=q.I X;clear E F G C T5 e4 d7 l8 h2 d4 r0 o4 o8;go_upto_region 6 with(fail)
 obtain⟨E,F,G,-,-,-⟩:=j.three;have i0:=j.lt;have s5:=zDe [1];have t6:=zAX [1];have o9:=zED 44 a3.heap.size #[.bool false,.slice none 0 0,.slice none 0 0];refine zBF 9 rfl (RAS ([]) 99 a3 _ [⟨0,52,fun _ v=>v= .agg #[.int .i64 (1:Nat),.int .i64 (2:Nat),.slice f0 e9 e8]⟩,⟨1,53,fun w v=>zEt w v [1]⟩,⟨2,54,fun w v=>zAR w v [1]⟩,⟨3,55,fun _ v=>v= .tuple #[.agg #[.bool false,.slice none 0 0,.slice none 0 0],.int .i64 50]⟩,⟨4,51,fun _ v=>v= .tuple #[.agg #[.bool false,.slice none 0 0,.slice none 0 0],.int .i64 50]⟩,⟨5,56,fun _ v=>v= .agg #[.bool false,.slice none 0 0,.slice none 0 0]⟩,⟨6,57,fun _ v=>v= .int .i64 50⟩,⟨7,11,zTf 44 a3.heap.size #[.bool false,.slice none 0 0,.slice none 0 0]⟩] 8 (put3 11 56)) kR (zBt (zCK kR (by repeat' (first|exact zBU _|exact zBs _|exact zAl _ _ _|exact zAX _|assumption|refine xgm.2 ⟨?_,?_⟩|exact xgn _)))) ?fin4 ?steps4
 case steps4=>
  refine⟨?_,?_,?_,?_,?_,?_,?_,?_,?_,trivial⟩
  .refine zV.liftA kR dE ?_
   intro L T b c hd l hI K hK;try refine zD rfl ?_
   have zt:T[2]?=some (.pointer (some ⟨wb.heap.size+1,0,none⟩)):=hI.keep 2 sI;have f9:=hI.cell (sI) oM E;have g1:=hI.cell (sI) oM F;have g4:=hI.cell (sI) oM G;go_simp;exact hK _ _ (hI.y mm0 rfl)
  .refine zV.liftA kR dE ?_
   intro L T b c hd l hI K hK;try refine zD rfl ?_
   go_simp;exact hK _ _ ((hI.world ((zB _ _).alloc (xgf _) _)).y mm1 (zEt.new _ [1] dE dE))
  .refine zV.liftA kR dE ?_
   intro L T b c hd l hI K hK;try refine zD rfl ?_
   obtain⟨z1,k6,a7⟩:=hI.v mm1 (hd 1);go_simp;refine(zCO _ [1] _ a7 dE).mono ?_;rintro e D ⟨v,rfl,f,p⟩;exact hK _ _ ((hI.world p).y mm2 f)
  .refine zV.liftA kR dE ?_
   intro L T b c hd l hI K hK;try refine zD rfl ?_
   obtain⟨_,k4,rfl⟩:=hI.v mm0 (hd 0);obtain⟨z2,k7,a8⟩:=hI.v mm2 (hd 2);have a5:=zDu hI.onl;go_simp;refine(zN0 _ _ 1 2 [[1,1]] [1] _ (h.out.I a5) ⟨rfl,by simp⟩ a8 dE).mono ?_;rintro e D ⟨rfl,p⟩;exact hK _ _ ((hI.world p).y mm3 rfl)
  .refine zV.liftA kR dE ?_
   intro L T b c hd l hI K hK;try refine zD rfl ?_
   obtain⟨_,k8,rfl⟩:=hI.v mm3 (hd 3);go_simp;exact hK _ _ (hI.y mm4 rfl)
  .refine zV.liftA kR dE ?_
   intro L T b c hd l hI K hK;try refine zD rfl ?_
   obtain⟨_,b8,rfl⟩:=hI.v mm4 (hd 4);go_simp;exact hK _ _ (hI.y mm5 rfl)
  .intro L T b c hd l hI K hK
   try refine zD rfl ?_
   obtain⟨w0,z,-,-⟩:=id hI;obtain⟨_,b8,rfl⟩:=z.val _ mm4 (hd 4);go_simp;exact hK _ _ (hI.pure ⟨6,57,_⟩ mm6 rfl (fun _=>rfl) dE (fun _=>zHf dE dE))
  .refine zV.liftA kR dE ?_
   intro L T b c hd l hI K hK;try refine zD rfl ?_
   go_simp;exact hK _ _ ((hI.world ((zB _ _).alloc (xgf _) _)).y mm7 ⟨_,rfl,hI.onl.bel.size,yJ _ _ _⟩)
  intro L T b c hd l hI K hK;try refine zD rfl ?_
  replace hI:=hI.here c;obtain⟨_,b5,rfl⟩:=hI.v mm5 (hd 5);obtain⟨k1,b6,Y⟩:=hI.v mm7 (hd 7);obtain⟨b7,rfl,-,T7⟩:=Y;obtain⟨f1,f2,f3,f4,f5,f6⟩:=T7.three;go_simp;exact hK _ _ (zBu hI c (by repeat' (first|exact xgn _|refine xgm.2 ⟨by dsimp only;decide,?_⟩)) dE (zE4 b6 b5).symm)
 intro T r5 z;obtain⟨x6,hI,-,d8⟩:=z;replace d8:=d8 kR;obtain⟨i9,S,rfl⟩:=hI.v mm0 rfl;obtain⟨b0,U,g8⟩:=hI.v mm1 rfl;obtain⟨b3,J,g9⟩:=hI.v mm2 rfl;obtain⟨b9,M,rfl⟩:=hI.v mm3 rfl;obtain⟨c0,V,rfl⟩:=hI.v mm4 rfl;obtain⟨a1,N,rfl⟩:=hI.v mm5 rfl;obtain⟨k0,O,rfl⟩:=hI.v mm6 rfl;obtain⟨b4,W,a4⟩:=hI.v mm7 rfl;have P:=zCW [(52,.agg #[.int .i64 (1:Nat),.int .i64 (2:Nat),.slice f0 e9 e8]),(53,b0),(54,b3),(55,.tuple #[.agg #[.bool false,.slice none 0 0,.slice none 0 0],.int .i64 50]),(51,.tuple #[.agg #[.bool false,.slice none 0 0,.slice none 0 0],.int .i64 50]),(56,.agg #[.bool false,.slice none 0 0,.slice none 0 0]),(57,.int .i64 50),(11,b4)]
  (fun a9 Q=>hI.keep a9 (by simp only[xgm]at Q ⊢;simp[Q]))
  (by simp only[xgm];simp[S,U,J,M,V,N,O,W]) hI.size
 have l9:=hI.onl;clear hI;simp only[List.foldl_cons,List.foldl_nil,xgh,xgi,xgj,ptr]at P;subst P;clear S U J M V N O W;simp only[xgl,xgk];have h3:=zDu l9;obtain⟨g6,rfl,s4,T6⟩:=a4;have O:=h3.size;have m0:=d8.trans (zE4 rfl rfl);have I:Below a3.heap.size a3 r5:=by
  rw[m0];exact yM (yM (yM h3 oM 0 _) oM 1 _) oM 2 _
 have g:=nx g I;have d:=xgv (d.out.I I);have h:=xgv (h.out.I I);have i:=i.I I;have j:=j.I I;have m:=xgv (m.out.I I);have n:=n.I I;have HB:=xgv (HB.out.I I);have o:=o.I I;have q:=q.I I;have t:=xgv (t.out.I I);have r:=r.I I;clear E F G T6 m0 d8 l9 h3 o9;go_wp2_with fail
 refine(zXX 0 0 _ _ _ (by rfl) (by rfl) dE dE).mono ?_;rintro e wf ⟨v1,rfl,B,a⟩;have g:=nx g a;have d:=xgv (d.out.I a);have h:=xgv (h.out.I a);have i:=i.I a;have j:=j.I a;have m:=xgv (m.out.I a);have n:=n.I a;have HB:=xgv (HB.out.I a);have o:=o.I a;have q:=q.I a;have t:=xgv (t.out.I a);have r:=r.I a;obtain⟨x9,x8,x7,rfl⟩:=B.agg;go_wp2_with fail
 refine(zJk true [] _ _ 0 0 _ wf B ⟨rfl,by simp[zCn]⟩ (zAR.nil wf) rfl dE dE (fun r6 ha=>by omega) dE zVf).mono ?_;rintro e wg ⟨_,rfl,hs,a⟩;obtain⟨ko,kn,kk,v6,v5,v4,rfl,-⟩:=zJM hs;have g:=nx g a;have d:=xgv (d.out.I a);have h:=xgv (h.out.I a);have i:=i.I a;have j:=j.I a;have m:=xgv (m.out.I a);have n:=n.I a;have HB:=xgv (HB.out.I a);have o:=o.I a;have q:=q.I a;have t:=xgv (t.out.I a);have r:=r.I a;clear hs B;go_upto_region 8 with(fail)
 refine zE ?_;intro W7 l2;obtain⟨H,Z,t4⟩:=qL l2;have g:=nx g H;have d:=xgv (d.out.I H);have h:=xgv (h.out.I H);have i:=i.I H;have j:=j.I H;have m:=xgv (m.out.I H);have n:=n.I H;have HB:=xgv (HB.out.I H);have o:=o.I H;have q:=q.I H;have t:=xgv (t.out.I H);have r:=r.I H;clear l2;go_wp2_with fail
 refine(zOP 1 2 W7 dE dE dE).mono ?_;rintro e wh ⟨r1,rfl,h5,a⟩;have g:=nx g a;have d:=xgv (d.out.I a);have h:=xgv (h.out.I a);have i:=i.I a;have j:=j.I a;have m:=xgv (m.out.I a);have n:=n.I a;have HB:=xgv (HB.out.I a);have o:=o.I a;have q:=q.I a;have t:=xgv (t.out.I a);have r:=r.I a;have Z:=Z.I a;obtain⟨p1,p2,p3,p4,p5,p6,p7,p8,rfl,-,-⟩:=id h5;have c8:=xgv h5;clear h5;go_wp2_with fail
 refine(zCm 0 wh dE dE).mono ?_;rintro e wi ⟨r2,rfl,h6,a⟩;have g:=nx g a;have c8:=xgv (c8.out.I a);have d:=xgv (d.out.I a);have h:=xgv (h.out.I a);have i:=i.I a;have j:=j.I a;have m:=xgv (m.out.I a);have n:=n.I a;have HB:=xgv (HB.out.I a);have o:=o.I a;have q:=q.I a;have t:=xgv (t.out.I a);have r:=r.I a;have Z:=Z.I a;obtain⟨u1,u2,u3,u4,u5,u6,u7,u8,rfl,-,-⟩:=id h6;have k9:=xgv h6;clear h6;go_upto_region 9 with(fail)
 refine zE ?_;intro W8 l3;obtain⟨x,bq,f8,t5⟩:=jW l3;have g:=nx g x;have h4:=zUe bq (c8.out.I x) (k9.out.I x);rw[zRn]at h4;have c7:=xgv h4;have d:=xgv (d.out.I x);have h:=xgv (h.out.I x);have i:=i.I x;have j:=j.I x;have m:=xgv (m.out.I x);have n:=n.I x;have HB:=xgv (HB.out.I x);have o:=o.I x;have q:=q.I x;have t:=xgv (t.out.I x);have r:=r.I x;have Z:=Z.I x;clear l3 h4 c8 k9 bq;go_upto_region 10 with(fail)
 obtain⟨d1,d2,d3,-,-,-⟩:=n.three;obtain⟨e1,e2,e3,-,-,-⟩:=o.three;obtain⟨f1,f2,f3,-,-,-⟩:=q.three;obtain⟨ma,mb,mc,-,-,-⟩:=r.three;obtain⟨ia,ib,ic,-,-,-⟩:=Z.three;have s9:=zDe [2,1];have v2:=zAX [2,1];refine zBK [pcD 5 [] (fun w v=>zEt w v [2,1]),pcD 6 [5] (fun w v=>zAR w v [2,1]),pcD 7 [6] (fun _ v=>v= .bool true)] ?_;refine sRd ?_;refine sRc (fun b hI s k=>?_) (fun v7 _=>?_)
 .go_simp
  exact⟨k _ _ (zEt.new _ [2,1] dE dE),(zB _ _).alloc (xgf _) _⟩
 refine sRc (fun b hI m5 s k=>by go_simp;exact ck k (zCO _ [2,1] _ m5 dE)) (fun v8 _=>?_);refine sRc (fun b hI m6 s k=>?_) (fun _ f=>?_)
 .go_simp
  refine(zSi _ _ [2,1] _ (m.out.vec.I hI.bel) m6).mono ?_;rintro e D ⟨v,rfl,f,p⟩;exact⟨_,rfl,k _ _ f,p⟩
 obtain⟨_,-,rfl⟩:=f;refine sRd ?_;refine sRe ?_;intro wy A m5 m6 _;have g:=nx g A;have d:=xgv (d.out.I A);have h:=xgv (h.out.I A);have i:=i.I A;have j:=j.I A;have m:=xgv (m.out.I A);have n:=n.I A;have HB:=xgv (HB.out.I A);have o:=o.I A;have q:=q.I A;have t:=xgv (t.out.I A);have r:=r.I A;have Z:=Z.I A;have c7:=xgv (c7.out.I A);have f8:=f8.I A;clear d1 d2 d3 e1 e2 e3 f1 f2 f3 ma mb mc ia ib ic;go_upto_region 11 with(fail)
 obtain⟨E,F,G,-,-,-⟩:=i.three;obtain⟨d1,d2,d3,-,-,-⟩:=j.three;obtain⟨e1,e2,e3,-,-,-⟩:=o.three;obtain⟨ma,mb,mc,-,-,-⟩:=r.three;obtain⟨j1,j2,j3,-,-,-⟩:=f8.three;have s8:=zDe [2,0];have v0:=zAX [2,0];refine zBK [pcD 6 [] (fun w v=>zEt w v [1,0]),pcD 7 [6] (fun w v=>zAR w v [1,0]),pcD 9 [7] (fun _ v=>v= .bool true),pcD 13 [] (fun w v=>zEt w v [1,2]),pcD 14 [13] (fun w v=>zAR w v [1,2]),pcD 16 [14] (fun _ v=>v= .bool true),pcD 20 [] (fun w v=>zEt w v [1,0]),pcD 21 [20] (fun w v=>zAR w v [1,0]),pcD 23 [21] (fun _ v=>v= .bool true),pcD 27 [] (fun w v=>zEt w v [2,0]),pcD 28 [27] (fun w v=>zAR w v [2,0]),pcD 30 [28] (fun _ v=>v= .bool false),pcD 35 [] (fun w v=>zEt w v [4,3]),pcD 36 [35] (fun w v=>zAR w v [4,3]),pcD 38 [36] (fun _ v=>v= .bool false)] ?_;refine sRd ?_;refine sRc (fun b hI s k=>?_) (fun w8 _=>?_)
 .go_simp
  exact⟨k _ _ (zEt.new _ [1,0] dE dE),(zB _ _).alloc (xgf _) _⟩
 refine sRc (fun b hI n7 s k=>by go_simp;exact ck k (zCO _ [1,0] _ n7 dE)) (fun w9 _=>?_);refine sRd ?_;refine sRc (fun b hI n8 s k=>?_) (fun _ f=>?_)
 .go_simp
  refine(zW3 2 2 [[2,0],[0,3]] [1,0] _ _ _ _ (HB.out.I hI.bel) (d.out.I hI.bel) ⟨rfl,by simp⟩ n8 rfl dE dE (zGp dE ⟨rfl,by simp⟩) dE).mono ?_;rintro e D ⟨v,rfl,f,p⟩;exact⟨_,rfl,k _ _ f,p⟩
 obtain⟨_,-,rfl⟩:=f;refine sRd ?_;refine sRc (fun b hI s k=>?_) (fun v9 _=>?_)
 .go_simp
  exact⟨k _ _ (zEt.new _ [1,2] dE dE),(zB _ _).alloc (xgf _) _⟩
 refine sRc (fun b hI Y s k=>by go_simp;exact ck k (zCO _ [1,2] _ Y dE)) (fun w1 _=>?_);refine sRd ?_;refine sRc (fun b hI m7 s k=>?_) (fun _ f=>?_)
 .go_simp
  refine(zW3 1 2 [[1,1]] [1,2] _ _ _ _ (t.out.I hI.bel) (h.out.I hI.bel) ⟨rfl,by simp⟩ m7 rfl dE dE (zGp dE ⟨rfl,by simp⟩) dE).mono ?_;rintro e D ⟨v,rfl,f,p⟩;exact⟨_,rfl,k _ _ f,p⟩
 obtain⟨_,-,rfl⟩:=f;refine sRd ?_;refine sRc (fun b hI s k=>?_) (fun w2 _=>?_)
 .go_simp
  exact⟨k _ _ (zEt.new _ [1,0] dE dE),(zB _ _).alloc (xgf _) _⟩
 refine sRc (fun b hI m8 s k=>by go_simp;exact ck k (zCO _ [1,0] _ m8 dE)) (fun w3 _=>?_);refine sRd ?_;refine sRc (fun b hI m9 s k=>?_) (fun _ f=>?_)
 .go_simp
  refine(zLy true [1,0] _ _ _ _ _ (d.out.I hI.bel) m9 rfl (c7.out.I hI.bel) dE dE zRo).mono ?_;rintro e D ⟨v,rfl,f,p⟩;exact⟨_,rfl,k _ _ f,p⟩
 obtain⟨_,-,rfl⟩:=f;refine sRd ?_;refine sRc (fun b hI s k=>?_) (fun w4 _=>?_)
 .go_simp
  exact⟨k _ _ (zEt.new _ [2,0] dE dE),(zB _ _).alloc (xgf _) _⟩
 refine sRc (fun b hI n0 s k=>by go_simp;exact ck k (zCO _ [2,0] _ n0 dE)) (fun w5 _=>?_);refine sRd ?_;refine sRc (fun b hI n1 s k=>?_) (fun _ f=>?_)
 .go_simp
  refine(zLy false [2,0] _ _ _ _ _ (d.out.I hI.bel) n1 rfl (c7.out.I hI.bel) dE dE zUD).mono ?_;rintro e D ⟨v,rfl,f,p⟩;exact⟨_,rfl,k _ _ f,p⟩
 obtain⟨_,-,rfl⟩:=f;refine sRd ?_;refine sRc (fun b hI s k=>?_) (fun w6 _=>?_)
 .go_simp
  exact⟨k _ _ (zEt.new _ [4,3] dE dE),(zB _ _).alloc (xgf _) _⟩
 refine sRc (fun b hI n4 s k=>by go_simp;exact ck k (zCO _ [4,3] _ n4 dE)) (fun w7 _=>?_);refine sRd ?_;refine sRc (fun b hI n6 s k=>?_) (fun _ f=>?_)
 .go_simp
  refine(zLy false [4,3] [] _ _ _ _ (d.out.I hI.bel) n6 rfl (zDE.nil _) dE dE zUX).mono ?_;rintro e D ⟨v,rfl,f,p⟩;exact⟨_,rfl,k _ _ f,p⟩
 obtain⟨_,-,rfl⟩:=f;refine sRd ?_;refine sRe ?_;intro wz r4 n7 n8 _ Y m7 _ m8 m9 _ n0 n1 _ n4 n6 _;have g:=nx g r4;go_wp2;go_ret;exact⟨rfl,g⟩
theorem zUY(C:Nat)(y:Nat->Int):yV 1 C (fun _ j=>y j)= [qQ C y]:=by simp[yV,qQ]
theorem zT5{j:Nat}(a:j<C):ent [qQ C y] 0 j=y j:=zDL (i:=0) (j:=j) rfl (qU a)
theorem zNb(C:Nat)(y:Nat->Int):zBe 1 C [qQ C y]:=⟨rfl,fun r a=>by rw[List.mem_singleton.1 a,zO]⟩
theorem zTU(d:∀j,j<C->(y j).natAbs<=1000000):∀r∈ [qQ C y],∀z∈r,Sm z:=fun r c z e=>by
 obtain rfl:=List.mem_singleton.1 c;obtain⟨b,a,rfl⟩:=List.mem_map.1 e;exact zNm (zIE (zF (d b (yR.1 a)) dE))
theorem zTh.row(h:zTh (1:Nat) C [qQ C y] w v):∃a n k b c,v= .tuple #[.agg #[.int .i64 (1:Nat),.int .i64 C,.slice (some ⟨a,0,none⟩) n k],.int .i64 0]/\0<n/\a<w.heap.size/\w.cell? ⟨a,0,none⟩=some (.slice b C c)/\zAR w (.slice b C c) (qQ C y):=by
 obtain⟨u,rfl,r,rfl,d⟩:=h;obtain⟨s,m,l,rfl,i,-⟩:=id d;obtain rfl:1=m:=i;obtain⟨a,b,p,c,q,rfl,g,j,o,f⟩:=d.row (k:=0) (Nat.zero_lt_one);obtain rfl:qQ C y=q:=qC j;have e:=f.len;rw[zO]at e;obtain rfl:C=p:=e.1;exact⟨a,1,l,b,c,rfl,by decide,g,o,f⟩
theorem zGd.congr{m:Nat}{u v:Nat->Nat->Rat}(h:zGd n m u)(e:∀k,k<m->∀j,j<n->v k j=u k j):zGd n m v:=fun l c=>h l fun j a=>by
 rw[<-c j a];exact qD fun k b=>by rw[e k b j a]
def zVF(f:Bool):World->Value->Prop:=fun _ v=>∃o n k o' n' k',v= .tuple #[.agg #[.bool f,.slice o n k,.slice o' n' k'],.int .i64 0]
theorem zH9(f:Bool):zAA (zVF f):=fun _ _ _ _ h=>h
theorem zIA(f:Bool)(n0 m:Nat)(t:TypeId):zD8 n0 t m (zVF f):=fun _ _ _ _ _ _ _ _ _ h=>h
theorem zEe(n0 m:Nat)(R C:Int)(M:List (List Int)):zD8 n0 44 m (fun w v=>zAo w v R C M):=fun _ _ _ _ _ _ a _ _ h=>h.wrT a dE dE dE
theorem zIB(n0 m:Nat)(l:List Int):zD8 n0 44 m (fun w v=>zAR w v l):=fun _ _ _ _ _ _ a _ _ h=>h.wrT a dE dE
theorem zPY(f:Bool)(y:Nat->Int)(v a:Value)(R C:Nat)(M:List (List Int))(w:World)(l:zAo w v R C M)(hF:zBe R C M)(b:zAR w a (qQ C y))(g:R<=4)(d:C<=4)(c:leM 9 R C (ent M))(p:∀j,j<C->(y j).natAbs<=1500000)(i:f=true↔∃x,zLu R C (ent M) y x):
  Calls Tryz.prog 10 #[v,a] w fun e w'=>∃u,e= .returned u/\zVF f w' u/\Below w.heap.size w w':=
 (zN1 v a R C M y w l hF b g d c p).mono fun e w' ⟨u,h,m,b⟩=>by
  obtain⟨o,n,k,s,r,q,rfl,-⟩:=m.kind i;exact⟨_,h,⟨_,_,_,_,_,_,rfl⟩,b⟩
theorem zKt{k:Int}:yV 1 C (fun i j=>ent [qQ C y] i j*k)= [qQ C fun j=>y j*k]:=by
 rw[<-zUY C (fun j=>y j*k)];exact zAE fun i b j a=>by
  obtain rfl:i=0:=by omega
  rw[zT5 a]
theorem zAo.row1(h:zAo w v (1:Nat) C [qQ C y]):∃a n k,v= .agg #[.int .i64 (1:Nat),.int .i64 C,.slice (some ⟨a,0,none⟩) n k]/\0<n/\a<w.heap.size/\∃b c,w.cell? ⟨a,0,none⟩=some (.slice b C c)/\zAR w (.slice b C c) (qQ C y):=by
 obtain⟨a,n,k,b,c,e,d,f,g,i⟩:=zTh.row ⟨v,rfl,h⟩;injection e with e
 injection e with e
 injection e with e _
 exact⟨a,n,k,e,d,f,b,c,g,i⟩
theorem zEy(v lv:Value)(r c:Nat)(q:Int)(ls l1:List Int)(w:World)(h:I8V w v ls)(hl:I8V w lv l1)(hr:r<=255)(hc:c<=255)(hq:-128<=q)(n1:q<=127):
  Calls Tryz.prog 3 #[.agg #[.int .u8 r,.int .u8 c,v],lv,.int .i8 q] w fun e w'=>e= .returned (.bool true)/\Below w.heap.size w w':=by
 obtain⟨ao,n,f9,rfl,-,-,-,-,-⟩:=id h;obtain⟨R,hR⟩:∃R:Nat,R=r%5:=⟨_,rfl⟩;obtain⟨C,hC⟩:∃C:Nat,C=c%5:=⟨_,rfl⟩;have b7:R<=4:=by omega
 have a1:C<=4:=by omega
 have HR:=xgw hR;have HC:=xgw hC;clear hR hC;obtain⟨M,hM⟩:∃M,yV R C (zLd C ls)=M:=⟨_,rfl⟩;have k8:qS (∀w,I8V w (.slice ao n f9) ls->Calls Tryz.prog 5 #[.agg #[.int .u8 r,.int .u8 c,.slice ao n f9]] w fun e w'=>∃v,e= .returned v/\zAo w' v R C M/\Below w.heap.size w w'):=⟨fun w h=>by
  rw[<-hM];exact zWc _ r c ls w h hr hc R C HR.out HC.out⟩
 have Z:qS (zBe R C M):=⟨by rw[<-hM];exact zB7 _ _ _⟩;have a7:qS (leM 9 R C (ent M)):=⟨by rw[<-hM];exact zT3 (zRZ R C C ls)⟩;clear hM;obtain⟨lo,ln,lc,rfl,-,-,-,-,-⟩:=id hl;obtain⟨y,e9⟩:∃y:Nat->Int,zLd C l1 0=y:=⟨_,rfl⟩;have l3:qS (∀w,I8V w (.slice lo ln lc) l1->Calls Tryz.prog 6 #[.slice lo ln lc,.int .i64 C] w fun e w'=>∃u,e= .returned u/\zAR w' u (qQ C y)/\Below w.heap.size w w'):=⟨fun w h=>e9 ▸ zOx _ C l1 w h oM⟩;have b0:qS (∀j,(y j).natAbs<=9):=⟨fun j=>e9 ▸ zPU C l1 0 j⟩;clear e9;have f1:qS (∀a,a<R->∀b,b<C->(ent M a b).natAbs<2^4):=⟨fun a S b N=>zM (a7.out a S b N) dE⟩;have c7:qS (∀k,k<=4->5^k*4<=2500):=⟨fun k hk=>by
  have V:=zF3 (e:=4) hk;have L:5^4*4=2500:=rfl;omega⟩
 have l0:qS (∀(v:Value) (w:World),zAo w v R C M->Calls Tryz.prog 7 #[v] w fun e w'=>∃u1 u2,e= .returned (.tuple #[u1,u2])/\zIo C R (fun i j=>(ent M i j:Rat)) w' u1/\zIo R C (fun i j=>(ent M j i:Rat)) w' u2/\Below w.heap.size w w'):=⟨fun v w k=>zOS (e:=4) v R C M w k Z.out oM oM dE f1.out (by have:=c7.out R b7;omega) (by have:=c7.out C a1;omega)⟩;have l2:qS (∀(v bv:Value) (w:World),zAo w v R C M->zAR w bv (qQ C y)->Calls Tryz.prog 9 #[v,bv] w fun e w'=>∃x y' f,e= .returned (.tuple #[x,y',.bool f])/\(f=true↔Cmb C R (fun i j=>((ent M i j:Int):Rat)) fun j=>((y j:Int):Rat))/\Below w.heap.size w w'):=⟨fun v bv w k1 k2=>zMe (e:=4) v bv R C M y w k1 k2 Z.out b7 a1 dE dE f1.out fun j _=>zM (b0.out j) dE⟩;go_enter Tryz.func3,Tryz.ntmps3;go_upto_region 1 with(fail)
 refine zE ?_;intro W0 g7;obtain⟨l5,bx,n3⟩:=qL g7;clear g7;go_wp2_with fail
 refine(zLA W0).mono ?_;rintro e w1 ⟨rfl,h0⟩;have o:=nx l5 h0;have bx:=bx.I h0;obtain⟨E,F,G,H,I,J⟩:=bx.three;go_wp2_with fail
 refine(k8.out w1 (h.I o)).mono ?_;rintro e w2 ⟨va,rfl,hm,l6⟩;obtain⟨ro,rn,rc,rfl⟩:=hm.agg;have o:=nx o l6;clear E F G H I J bx;go_upto_region 3 with(fail)
 refine zE ?_;intro W3 g8;obtain⟨g1,s,n4⟩:=qL g8;have A:=xgv (hm.I g1);have o:=nx o g1;clear g8 hm;obtain⟨E,F,G,H,I,J⟩:=s.three;go_wp2_with fail
 refine(l3.out W3 (hl.I o)).mono ?_;rintro e w4 ⟨yv,rfl,hy,d0⟩;obtain⟨yo,yn,yc,rfl,-⟩:=id hy;have K:=xgv hy;have A:=xgv (A.out.I d0);have s:=s.I d0;have o:=nx o d0;clear E F G H I J hy;obtain⟨E,F,G,H,I,J⟩:=s.three;go_wp2_with fail
 refine(l0.out _ w4 A.out).mono ?_;rintro e w5 ⟨u1,u2,rfl,V,L,b8⟩;obtain⟨o1,m,k1,X,B1,rfl,g5,i0,m6,m7,a3⟩:=V;obtain⟨o2,m2,k2,Y,B2,rfl,g6,i3,m8,n0,b4⟩:=L;obtain⟨rfl,g3,g4⟩:=zSF a3 b4;have i4:m<=4:=zF a3.ec.le a1;obtain⟨Q,b6⟩:∃Q,yV m m (zSR M X Y)=Q:=⟨_,rfl⟩;obtain⟨D,hD⟩:∃D,det m (fun k l=>ent M (X.getD k 0) (Y.getD l 0))=D:=⟨_,rfl⟩;have b3:∀a,a<m->∀b,b<m->ent Q a b=ent M (X.getD a 0) (Y.getD b 0):=fun a S b N=>by rw[<-b6,zA9 S N];rfl
 have k3:qS (zBe m m Q):=⟨b6 ▸ zB7 _ _ _⟩;have f4:qS (∀(v:Value) (w:World),zAo w v R C M->zBI w o1 X->zBI w o2 Y->Calls Tryz.prog 8 #[v,.slice o1 m k1,.slice o2 m k2] w fun e w'=>∃v,e= .returned (.tuple #[v,.int .i64 0])/\zAo w' v m m Q/\Below w.heap.size w w'):=⟨fun v w j1 j2 j3=>by
  refine(zSS v R C M o1 o2 m m k1 k2 X Y w j1 Z.out oM oM j2 j3 i0 i3 oM oM (fun x P=>?_) (fun x P=>?_)).mono ?_
  .obtain⟨i,hi,rfl⟩:=yL P
   have:=a3.lt i oM;rw[xgb,xga hi]at this;exact this
  .obtain⟨i,hi,rfl⟩:=yL P
   have:=b4.lt i oM;rw[xgb,xga hi]at this;exact this
  rintro e w' ⟨v,bs,rfl,d,N⟩;exact⟨v,rfl,b6 ▸ d.mat.1,N⟩⟩
 have h9:∀a,a<m->∀b,b<m->(ent M (X.getD a 0) (Y.getD b 0)).natAbs<=9:=fun a S b N=>a7.out _ (a3.lt a S) _ (b4.lt b N)
 have f0:qS (∀(v:Value) (w:World),zAo w v m m Q->Calls Tryz.prog 13 #[v] w (zBk w D)):=⟨fun v w j=>by
  have e:det m (ent Q)=D:=hD ▸ zCu b3;rw[<-e];refine zMf (e:=4) v m Q w j k3.out oM dE (fun a S b N=>?_) (g3.congr fun k hk j T=>by rw[b3 j T k hk]) ?_
  .rw[b3 a S b N]
   exact zM (h9 a S b N) dE
  have:=c7.out m i4;have:(m+1)*(5^m*4)<=5*2500:=qP oM this;omega⟩
 have c9:D.natAbs<=24*9^4:=hD ▸ zTH i4 dE h9;obtain⟨z,hz⟩:∃z:Nat->Int,(fun j=>y j*D)=z:=⟨_,rfl⟩;obtain⟨t,ht⟩:∃t:Nat->Int,(fun j=>y j*q)=t:=⟨_,rfl⟩;have HZ:qS (∀j,j<C->(z j).natAbs<=1500000):=⟨fun j _=>by
  rw[<-hz];show(y j*D).natAbs<=_;rw[qT];exact zF (qP (b0.out j) c9) dE⟩
 have HT:qS (∀j,j<C->(t j).natAbs<=1500000):=⟨fun j _=>by
  rw[<-ht];show(y j*q).natAbs<=_;rw[qT];exact zF (qP (b0.out j) (show q.natAbs<=128 by omega)) dE⟩
 have HY:qS (∀j,j<C->(y j).natAbs<=1000000):=⟨fun j _=>zF (b0.out j) dE⟩;have i5:Sm D:=zNm (zIE (zF c9 dE));have i6:Sm q:=zNm (zIE (show q.natAbs<=_ by omega));have f5:qS (∀(v U:Value) (w:World),zAo w v (1:Nat) C [qQ C y]->(yA w U D->Calls Tryz.prog 11 #[v,U] w fun e w'=>∃u,e= .returned u/\zAo w' u (1:Nat) C [qQ C z]/\Below w.heap.size w w')/\(yA w U q->Calls Tryz.prog 11 #[v,U] w fun e w'=>∃u,e= .returned u/\zAo w' u (1:Nat) C [qQ C t]/\Below w.heap.size w w')):=⟨fun v U w j=>⟨fun j2=>by
  rw[<-hz,<-zKt];exact(zIN v U 1 C _ D w j (zNb _ _) j2 oM oM (zTU HY.out) i5).mono fun e w' hh=>by
   obtain⟨u,bs,e1,L,h3⟩:=hh;exact⟨u,e1,L.mat.1,h3⟩,fun j2=>by
  rw[<-ht,<-zKt];exact(zIN v U 1 C _ q w j (zNb _ _) j2 oM oM (zTU HY.out) i6).mono fun e w' hh=>by
   obtain⟨u,bs,e1,L,h3⟩:=hh;exact⟨u,e1,L.mat.1,h3⟩⟩⟩
 have k7:qS ((Cmb C R (fun i j=>((ent M i j:Int):Rat)) fun j=>((y j:Int):Rat))↔∃x,zLu R C (ent M) z x):=⟨(g4 y).trans (by
  rw[hD,<-hz];exact⟨fun⟨x,P⟩=>⟨x,fun j T=>by rw[<-P j T,yN]⟩,fun⟨x,P⟩=>⟨x,fun j T=>by rw[<-P j T,yN]⟩⟩)⟩
 obtain⟨g,hg⟩:∃g:Bool,g=true↔∃x,zLu R C (ent M) t x:=by
  by_cases g:∃x,zLu R C (ent M) t x
  .exact⟨true,fun _=>g,fun _=>rfl⟩
  exact⟨false,nofun,fun g2=>absurd g2 g⟩
 have HG:=xgv hg;have f6:=xgv ht;have K:=xgv (K.out.I b8);have f2:=xgv g5;have f3:=xgv g6;have A:=xgv (A.out.I b8);have s:=s.I b8;have o:=nx o b8;clear E F G H I J b6 hD b3 h9 c9 hz ht hg g3 g4 a3 b4 i0 i3 g5 g6 i5 i6;obtain⟨E,F,G,H,I,J⟩:=s.three;go_wp2_with fail
 refine(f4.out _ w5 A.out f2.out f3.out).mono ?_;rintro e w6 ⟨v6,rfl,h6,b9⟩;obtain⟨po,pn,pc,rfl⟩:=h6.agg;have K:=xgv (K.out.I b9);have A:=xgv (A.out.I b9);have s:=s.I b9;have o:=nx o b9;clear E F G H I J f2 f3;go_upto_region 6 with(fail)
 refine zE ?_;intro W7 g9;obtain⟨a0,b2,n6⟩:=qL g9;have K:=xgv (K.out.I a0);have a9:=xgv (h6.I a0);have A:=xgv (A.out.I a0);have s:=s.I a0;have o:=nx o a0;clear g9 h6;obtain⟨E,F,G,H,I,J⟩:=s.three;go_wp2_with fail
 refine(l2.out _ _ W7 A.out K.out).mono ?_;rintro e w8 ⟨xv,yv,f,rfl,hf,W⟩;have k0:qS (f=true↔∃x,zLu R C (ent M) z x):=⟨hf.trans k7.out⟩;have k4:=xgv hf;have K:=xgv (K.out.I W);have a9:=xgv (a9.out.I W);have b2:=b2.I W;have A:=xgv (A.out.I W);have s:=s.I W;have o:=nx o W;clear E F G H I J hf;have m5:=zFJ;go_upto_region 7 with(fail)
 obtain⟨E,F,G,H,I,J⟩:=s.three;obtain⟨d1,d2,d3,d4,d5,d6⟩:=b2.three;have d7:=zAl (1:Nat) C [qQ C y];have d8:=zAl (1:Nat) C [qQ C z];have d9:=zAX (qQ C z);have e0:=zH9 f;have e4:=zEe w8.heap.size 3 (1:Nat) C [qQ C y];have e6:=zEe w8.heap.size 3 (1:Nat) C [qQ C z];have e7:=zIB w8.heap.size 3 (qQ C z);have e8:=zIA f w8.heap.size 3 44;refine zBK [pcD 2 [] (fun w v=>zAo w v (1:Nat) C [qQ C y]),pcI 4 D,pcD 5 [2,4] (fun w v=>zAo w v (1:Nat) C [qQ C z]),pcD 8 [5] (fun w v=>zAR w v (qQ C z)),pcD 9 [8] (zVF f),pbA 13 44 3,pbS 14 13 44 3] ?_;refine sRd ?_;refine sRc (fun B hI O p=>by go_simp;exact ck p (zMn _ C y B (K.out.I hI.bel))) (fun _ d=>?_);obtain⟨_,-,d⟩:=d;obtain⟨a2,n2,q2,rfl⟩:=d.agg;refine sRd ?_;refine sRc (fun B hI O p=>by go_simp;exact ck p (f0.out _ B (a9.out.I hI.bel))) (fun v4 _=>?_);refine sRc (fun B hI L h4 O p=>by go_simp;exact ck p ((f5.out _ _ B L).1 h4)) (fun _ d=>?_);obtain⟨_,-,d⟩:=d;obtain⟨b5,n5,q5,rfl,l7,-,-⟩:=d.row1;refine sRd ?_;refine sRc (fun B hI h5 O p=>?_) (fun _ d=>?_)
 .obtain⟨_,_,_,e5,-,-,ra,rc,p5,e3⟩:=(show zAo _ _ _ _ _ from h5).row1
  cases e5;go_simp;exact⟨p _ _ e3,zB _ _⟩
 obtain⟨_,-,d⟩:=d;obtain⟨a8,n8,q8,rfl,-⟩:=d;refine sRc (fun B hI h8 O p=>by go_simp;exact ck p (zPY f z _ _ R C M B (A.out.I hI.bel) Z.out h8 b7 a1 a7.out HZ.out k0.out)) (fun _ d=>?_);obtain⟨_,-,o9,m9,k9,a6,a5,a4,rfl⟩:=d;refine sRd ?_;refine sRa (cs:=#[.bool false,.slice none 0 0,.slice none 0 0]) fun f7 l9=>?_
 refine sRs f7 (.agg #[.bool f,.slice o9 m9 k9,.slice a6 a5 a4]) ?_;refine sRd ?_;refine sRb ?_;simp only[FA,FC,FN,ptr,List.nil_append,List.cons_append,Act.put,xgh,xgi,xgj];intro w9 c0 _ _ _ _ _ i7 _;have c8:Blk w9 f7 44 #[.bool f,.slice o9 m9 k9,.slice a6 a5 a4]:=i7 _ rfl;have K:=xgv (K.out.I c0);have A:=xgv (A.out.I c0);have s:=s.I c0;have o:=nx o c0;clear E F G H I J d1 d2 d3 d4 d5 d6 i7 d7 d8 d9 e0 e4 e6 e7 e8 b2 a9 f0 f4;go_upto_region 8 with(fail)
 obtain⟨E,F,G,H,I,J⟩:=s.three;have d7:=zAl (1:Nat) C [qQ C y];have n7:IntKind.i64.wrap q=q:=yB _ oM;have d8:=zAl (1:Nat) C [qQ C t];have d9:=zAX (qQ C t);have e0:=zH9 g;have e4:=zEe w9.heap.size 3 (1:Nat) C [qQ C y];have e6:=zEe w9.heap.size 3 (1:Nat) C [qQ C t];have e7:=zIB w9.heap.size 3 (qQ C t);have e8:=zIA g w9.heap.size 3 44;refine zBK [pcD 2 [] (fun w v=>zAo w v (1:Nat) C [qQ C y]),pcI 5 q,pcD 6 [2,5] (fun w v=>zAo w v (1:Nat) C [qQ C t]),pcD 9 [6] (fun w v=>zAR w v (qQ C t)),pcD 10 [9] (zVF g),pbA 14 44 3,pbS 15 14 44 3] ?_;refine sRd ?_;refine sRc (fun B hI O p=>by go_simp;exact ck p (zMn _ C y B (K.out.I hI.bel))) (fun _ d=>?_);obtain⟨_,-,d⟩:=d;obtain⟨a2,n2,q2,rfl⟩:=d.agg;refine sRd ?_;refine sRc (fun B hI O p=>by go_simp;exact ck p (zC2 q B oM oM)) (fun v4 _=>?_);refine sRc (fun B hI L h4 O p=>by go_simp;exact ck p ((f5.out _ _ B L).2 h4)) (fun _ d=>?_);obtain⟨_,-,d⟩:=d;obtain⟨b5,n5,q5,rfl,l7,-,-⟩:=d.row1;refine sRd ?_;refine sRc (fun B hI h5 O p=>?_) (fun _ d=>?_)
 .obtain⟨_,_,_,e5,-,-,ra,rc,p5,e3⟩:=(show zAo _ _ _ _ _ from h5).row1
  cases e5;go_simp;exact⟨p _ _ e3,zB _ _⟩
 obtain⟨_,-,d⟩:=d;obtain⟨a8,n8,q8,rfl,-⟩:=d;refine sRc (fun B hI h8 O p=>by go_simp;exact ck p (zPY g t _ _ R C M B (A.out.I hI.bel) Z.out h8 b7 a1 a7.out HT.out HG.out)) (fun _ d=>?_);obtain⟨_,-,o9,m9,k9,a6,a5,a4,rfl⟩:=d;refine sRd ?_;refine sRa (cs:=#[.bool false,.slice none 0 0,.slice none 0 0]) fun f8 m0=>?_
 refine sRs f8 (.agg #[.bool g,.slice o9 m9 k9,.slice a6 a5 a4]) ?_;refine sRd ?_;refine sRb ?_;simp only[FA,FC,FN,ptr,List.nil_append,List.cons_append,Act.put,xgh,xgi,xgj];intro l8 h7 _ _ _ _ _ i9 _;have l4:Blk l8 f8 44 #[.bool g,.slice o9 m9 k9,.slice a6 a5 a4]:=i9 _ rfl;have c8:=c8.I h7;have o:=nx o h7;have k6:qS (g=true->¬ q=0->f=true):=⟨fun V L=>k4.out.2 (by
  obtain⟨x,P⟩:=HG.out.1 V;refine zIQ (x:=x) (n:=q) L fun j T=>?_
  rw[<-P j T,<-f6.out,yN])⟩
 have k5:qS (q=0->g=true):=⟨fun V=>HG.out.2 ⟨fun _=>0,fun j T=>by
  rw[<-f6.out];subst V;exact(zZ (y j)).trans (zFE fun i _=>zAM _).symm⟩⟩
 clear E F G H I J i9 d7 d8 d9 e0 e4 e6 e7 e8;obtain⟨E,F,G,H,I,J⟩:=c8.three;obtain⟨d1,d2,d3,d4,d5,d6⟩:=l4.three;by_cases e2:q=0
 .obtain rfl:=k5.out e2
  subst e2;cases f
  .go_wp2
   go_ret;exact⟨rfl,o⟩
  go_wp2;go_ret;exact⟨rfl,o⟩
 cases g
 .cases f
  .go_wp2
   go_ret;exact⟨rfl,o⟩
  go_wp2;go_ret;exact⟨rfl,o⟩
 obtain rfl:=k6.out rfl e2;go_wp2;go_ret;exact⟨rfl,o⟩
open Go.ChangeShapes Go.WideShapes Go.ChangeAt
theorem zEB(u:Os)(Q:u.Started)(H:Type)(enc:TypeId × Value->H):
  ReturnsInHanded {} Tryz.checked u 3 .any (Rows.diophantMultiplesSpec.pre6 enc Tryz.prog Tryz.f3 Rows.diophantMultiplesRow.domain false) (Rows.diophantMultiplesSpec.post enc Tryz.prog Tryz.f3 false true false false):=by
 refine returnsInHanded_of_change (C:=Tryz.checked) Tryz.own Q kR Tryz.func3
  (ChangeSpec.witness6 (enc:=enc) (C:=Tryz.checked) false ⟨#[],#[.agg #[.int .u8 0,.int .u8 0,.slice none 0 0],.slice none 0 0,.int .i8 0],[]⟩ 8 kR kR kR kR) ?_
 intro W B g D gs V s o a1 _;have f:∀(j:Nat) t v,Tryz.f3.params[j]?=some t->g[j]?=some v->Value.okWide Tryz.prog W .any B t v:=s;have c:=o;obtain⟨p,a4,n,F,rfl,a2,a3⟩:=o;have m:DataW.TrodAll enc Tryz.prog W 0 (fun _=>true) true Tryz.f3.params.toList g.toList D p:=n;rw[Tryz.params3]at m f;obtain⟨S,A,T,X,Y,Z,w,y,z,rfl,rfl,rfl,i,k,l⟩:=trodAll_three m;obtain⟨rfl,rfl⟩:=trodVars_none F;clear n s;simp only[List.append_nil]at c;have q:∀x∈w,x.block<W.heap.size:=fun x d=>c.lt x (by simp[d])
 have r:∀x∈y,x.block<W.heap.size:=fun x d=>c.lt x (by simp[d])
 have K:∀x∈z,x.block<W.heap.size:=fun x d=>c.lt x (by simp[d])
 obtain⟨a,b,R,N,rfl,G,I,hI⟩:=zSM (f 0 24 S rfl rfl) i q;obtain⟨O,E⟩:=zSL (f 1 22 A rfl rfl) k r;obtain⟨P,rfl,M,L⟩:=zOL (f 2 25 T rfl rfl) l;refine(zEy R A a b P N O W hI E G I M L).mono fun a0 U ⟨J,e⟩=>?_
 subst J;refine⟨_,rfl,_,_,_,[],w++(y++z),[],c,?_,?_,rfl,e.frame _,fun h=>by cases h⟩;exact trodAll_mk1 (shut_bool Tryz.underlying4 true);exact trodAll_mk3 (Below.trod zDh kR (jM kR) i e q) (Below.trod zDh kR (jM kR) k e r) (Below.trod zDh kR (jM kR) l e K)
theorem zFZ:(Rows.diophantMultiplesRow.inPlace==Tryz.pinned.checked.prog.inPlace 3)=true:=by kernel_rfl
theorem zFa:(Rows.diophantMultiplesRow.unfollowed==Tryz.pinned.checked.prog.unfollowed 3)=true:=by kernel_rfl
theorem zFb:(Rows.diophantMultiplesRow.recurses==Tryz.pinned.checked.prog.recurses 3)=true:=by kernel_rfl
theorem zFc:(Rows.diophantMultiplesRow.named==Tryz.pinned.checked.prog.varsNamed 3)=true:=by kernel_rfl
theorem zEA:joinedFacts Tryz.pinned.checked.prog 3 Tryz.f3 Rows.diophantMultiplesSpec Rows.diophantMultiplesRow=true:=by
 unfold joinedFacts;rw[zFZ,zFa,zFb,zFc];kernel_rfl
theorem diophantMultiples_holds:Rows.DiophantMultiplesSaid:=
 OpenClaim.holds_of_wide 3 Tryz.f3 rfl rfl rfl rfl rfl rfl rfl ⟨rfl,rfl,rfl,rfl,rfl⟩ rfl rfl rfl rfl rfl kR Tryz.func3 zEA
  (jM kR) (by unfold Func.isWrapper;first|(rw[zC (by decide+kernel)];kernel_rfl)|(rw[zA (by decide+kernel)];exact⟨rfl,rfl⟩))
  (fun b c H a _=>zEB b c H a)
end Go.Proofs.YtniiekppgdkknaaGreat
