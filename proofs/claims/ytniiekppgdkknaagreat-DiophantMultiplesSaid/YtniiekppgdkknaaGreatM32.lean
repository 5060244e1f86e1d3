/- Joined. -/
import Derived.Test.YtniiekppgdkknaaGreatM31
set_option linter.unusedVariables false
set_option linter.unusedSimpArgs false
set_option linter.unusedSectionVars false
set_option maxHeartbeats 16000000
set_option maxRecDepth 100000
variable{cs:Array Go.Value}{M Mt:List (List Int)}{l xs:List Nat}{C R b b8 e g i k lo n t:Nat}{x y:Nat->Int}{σ:Nat->Nat}{A:Nat->Nat->Int}{no o:Option Go.Addr}{Tv v xv:Go.Value}{w w':Go.World}
namespace Go.Proofs.YtniiekppgdkknaaGreat
open Go.RowKit
theorem zNw{e h:Nat}(Y K Z yv:Value)(R C:Nat)(M:List (List Int))(y:Nat->Int)(xs:List Int)(c:List (Int × Int))(w:World)(G:zAo w Y R C M)(hF:zBe R C M)(A:zAR w K (qQ C y))(I:zAR w Z xs)(H:zDE w yv c)(hC:C<=1000)
  (V:∀p∈c,p.1.natAbs<2^e/\p.2.natAbs<2^e) (O:∀a,a<R->∀b,b<C->(ent M a b).natAbs<2^h) (X:∀j,j<C->(y j).natAbs<2^h) (hh:1<=h) (he:e+h+1<=900) (U:xs.length=0) (F:c.length=C):
  Calls Tryz.prog 22 #[Y,K,.agg #[.bool false,Z,yv]] w fun e w'=>∃u,e= .returned u/\u= .bool (zJa R C (ent M) y xs.length c)/\Below w.heap.size w w':=by
 have J:=xgv G;obtain⟨Av,rfl,W⟩:=id G;obtain⟨ao,mn,a4,rfl,t,e3,e4,-⟩:=id W;obtain rfl:R=mn:=by rw[<-t,hF.1]
 have HF:=xgv hF;have HB:=xgv A;have HX:=xgv I;obtain⟨bo,bn,bc,rfl,L,f3,f4,-⟩:=id A;obtain rfl:C=bn:=by rw[<-L,zO]
 obtain⟨xo,xn,xc,rfl,g2,g3,g4,-⟩:=id I;obtain⟨yo,yn,yc,rfl,k2,k3,k4,-⟩:=id H;obtain rfl:C=yn:=by omega
 obtain rfl:xn=0:=by omega
 have T:decide (zAq R C M)=true:=zT hF.valid;have HP:=xgv H;have a1:=xgv V;have a0:=xgv O;have a2:=xgv X;have HL:=xgv F;have S:zJa R C (ent M) y xs.length c=(zGH c && ((List.range R).all fun i=>isZ (zD6 C (ent M i) (rqL c))) && !isZ (zD6 C y (rqL c))):=by
  unfold zJa;rw[U,F];simp
 rw[S];obtain⟨s,z⟩:∃s,(zGH c && ((List.range R).all fun i=>isZ (zD6 C (ent M i) (rqL c))) && !isZ (zD6 C y (rqL c)))=s:=⟨_,rfl⟩;have HA:=xgv z;rw[z];clear W hF G A I H V O X U F S z t L g2 k2;go_enter Tryz.func22,Tryz.ntmps22;go_upto_region 1 with(fail)
 refine zE ?_;intro W0 P;obtain⟨N,d,k,a5⟩:=jW P;obtain⟨l,m,n,o,q,r⟩:=d.three;clear P;go_wp2_with fail
 refine(zBM _ R C M W0 (J.out.I N)).mono ?_;rintro e1 w1 ⟨rfl,B⟩;rw[T];have d:=d.I B;have k:=k.I B;have f:=nx N B;clear l m n o q r T;go_wp2_with fail
 refine(zC9 _ _ w1 (HB.out.I f)).mono ?_;rintro t w2 ⟨rfl,D⟩;have d:=d.I D;have k:=k.I D;have f:=nx f D;obtain⟨l,m,n,o,q,r⟩:=d.three;obtain⟨d1,d2,d3,d4,d5,d6⟩:=k.three;go_wp2_with fail
 refine(zJr xo yo 0 xc C yc w2).mono ?_;rintro e3 w3 ⟨rfl,Q⟩;have d:=d.I Q;have f:=nx f Q;clear l m n o q r d1 d2 d3 d4 d5 d6 k;obtain⟨l,m,n,o,q,r⟩:=d.three;rw[zC rfl];have a6:=zHt;have a7:=zHs;go_upto_region 9 with(fail)
 refine zBK [pcD 1 [] (fun _ v=>v= .int .i64 C),pcD 9 [] (fun _ v=>v= .bool s)] ?_;refine sRd ?_;refine sRc (fun wS hI Gk x=>?_) (fun _ g=>?_)
 .go_simp
  refine(zIt yo C yc _).mono ?_;rintro e wa ⟨v,rfl,g,E⟩;exact⟨_,rfl,x _ _ g,E⟩
 obtain⟨_,-,rfl⟩:=g;refine sRd ?_;refine sRc (fun wS hI Gk x=>?_) (fun _ g=>?_)
 .go_simp
  refine(HA.out ▸ zMk (e:=e) (h:=h) _ _ _ R C M y c _ (J.out.I (nx f hI.bel)) HF.out (HB.out.I (nx f hI.bel)) (HP.out.I (nx f hI.bel)) HL.out hC a1.out a0.out a2.out hh he).mono ?_;rintro e wa ⟨v,rfl,g,E⟩;exact⟨_,rfl,x _ _ g,E⟩
 obtain⟨_,-,rfl⟩:=g;refine sRd ?_;refine sRe ?_;intro w4 a3 _ _;go_wp2;go_ret;exact⟨_,rfl,rfl,nx f a3⟩
theorem zJg(F r G I:Value)(R C:Nat)(M:List (List Int))(y:Nat->Int)(xs:List Int)(k:List (Int × Int))(w:World)(p:zAo w F R C M)(hF:zBe R C M)(m:zAR w r (qQ C y))(q:zAR w G xs)(D:zDE w I k)(B:k.length≠0):
  Calls Tryz.prog 22 #[F,r,.agg #[.bool true,G,I]] w fun e w'=>∃u,e= .returned u/\u= .bool (zJZ R C (ent M) y xs k.length)/\Below w.heap.size w w':=by
 have J:=xgv p;obtain⟨Av,rfl,E⟩:=id p;obtain⟨ao,Y,a0,rfl,l,U,e4,-⟩:=id E;obtain rfl:R=Y:=by rw[<-l,hF.1]
 have HF:=xgv hF;have HB:=xgv m;have HX:=xgv q;obtain⟨bo,L,bc,rfl,s,f3,f4,-⟩:=id m;obtain rfl:C=L:=by rw[<-s,zO]
 obtain⟨xo,xn,xc,rfl,V,g3,g4,-⟩:=id q;obtain⟨yo,H,yc,rfl,X,k3,k4,-⟩:=id D;have W:H≠0:=by omega
 have A:decide (zAq R C M)=true:=zT hF.valid;have z:zJZ R C (ent M) y xs k.length=false:=by
  unfold zJZ;rw[zR B];simp
 rw[z];clear E hF p m q D B z l s V X;go_enter Tryz.func22,Tryz.ntmps22;go_upto_region 1 with(fail)
 refine zE ?_;intro K v;obtain⟨t,a,b,a1⟩:=jW v;obtain⟨d,f,g,h,i,j⟩:=a.three;clear v;go_wp2_with fail
 refine(zBM _ R C M K (J.out.I t)).mono ?_;rintro e1 Z ⟨rfl,n⟩;rw[A];have a:=a.I n;have b:=b.I n;have c:=nx t n;clear d f g h i j A;go_wp2_with fail
 refine(zC9 _ _ Z (HB.out.I c)).mono ?_;rintro l w2 ⟨rfl,o⟩;have a:=a.I o;have b:=b.I o;have c:=nx c o;obtain⟨d,f,g,h,i,j⟩:=a.three;obtain⟨N,O,P,Q,S,T⟩:=b.three;go_wp2_with fail
 refine(zGn xo yo xn xc H yc w2).mono ?_;rintro U w3 ⟨rfl,x⟩;have a:=a.I x;have c:=nx c x;clear d f g h i j N O P Q S T b;obtain⟨d,f,g,h,i,j⟩:=a.three;rw[zA W];have a2:=zHD;have a3:=zHE;go_wp2;go_ret;exact⟨_,rfl,rfl,c⟩
theorem zL0(F r H I:Value)(R C:Nat)(M:List (List Int))(y:Nat->Int)(xs:List Int)(q:List (Int × Int))(w:World)(o:zAo w F R C M)(hF:zBe R C M)(l:zAR w r (qQ C y))(p:zAR w H xs)(D:zDE w I q)(B:xs.length≠0):
  Calls Tryz.prog 22 #[F,r,.agg #[.bool false,H,I]] w fun e w'=>∃u,e= .returned u/\u= .bool (zJa R C (ent M) y xs.length q)/\Below w.heap.size w w':=by
 have J:=xgv o;obtain⟨Av,rfl,E⟩:=id o;obtain⟨ao,Y,a0,rfl,k,U,e4,-⟩:=id E;obtain rfl:R=Y:=by rw[<-k,hF.1]
 have HF:=xgv hF;have HB:=xgv l;have HX:=xgv p;obtain⟨bo,L,bc,rfl,s,f3,f4,-⟩:=id l;obtain rfl:C=L:=by rw[<-s,zO]
 obtain⟨xo,G,xc,rfl,V,g3,g4,-⟩:=id p;obtain⟨yo,yn,yc,rfl,X,k3,k4,-⟩:=id D;have W:G≠0:=by omega
 have A:decide (zAq R C M)=true:=zT hF.valid;have z:zJa R C (ent M) y xs.length q=false:=by
  unfold zJa;rw[zR B];simp
 rw[z];clear E hF o l p D B z k s V X;go_enter Tryz.func22,Tryz.ntmps22;go_upto_region 1 with(fail)
 refine zE ?_;intro K v;obtain⟨t,a,b,a1⟩:=jW v;obtain⟨d,f,g,h,i,j⟩:=a.three;clear v;go_wp2_with fail
 refine(zBM _ R C M K (J.out.I t)).mono ?_;rintro e1 Z ⟨rfl,m⟩;rw[A];have a:=a.I m;have b:=b.I m;have c:=nx t m;clear d f g h i j A;go_wp2_with fail
 refine(zC9 _ _ Z (HB.out.I c)).mono ?_;rintro k w2 ⟨rfl,n⟩;have a:=a.I n;have b:=b.I n;have c:=nx c n;obtain⟨d,f,g,h,i,j⟩:=a.three;obtain⟨N,O,P,Q,S,T⟩:=b.three;go_wp2_with fail
 refine(zJr xo yo G xc yn yc w2).mono ?_;rintro U w3 ⟨rfl,x⟩;have a:=a.I x;have c:=nx c x;clear d f g h i j N O P Q S T b;obtain⟨d,f,g,h,i,j⟩:=a.three;rw[zA W];have a2:=zHD;have a3:=zHE;go_wp2;go_ret;exact⟨_,rfl,rfl,c⟩
theorem zRV:zJZ R C A y (qQ R x) 0=decide (qQ C (fun j=>yZ R fun i=>x i*A i j)=qQ C y):=by
 have e:qQ C (fun j=>yZ R fun i=>(qQ R x).getD i 0*A i j)=qQ C (fun j=>yZ R fun i=>x i*A i j):=qZ fun j _=>yF fun i a=>by rw[zGE a]
 unfold zJZ;rw[zO,e];simp
theorem zPM(h:zLu R C A y x):zJZ R C A y (qQ R x) 0=true:=by
 rw[zRV,decide_eq_true_eq];exact qZ fun j a=>(h j a).symm
theorem zQi{q:Nat->Rat}(a:t<C):rqL (zAZ C fun t=>prQ (q t)) t=q t:=by
 unfold rqL;rw[xgb,zBP a];exact Rat.num_divInt_den _
theorem zSA{q:Nat->Rat}:zGH (zAZ C fun t=>prQ (q t))=true:=zW.2 fun p a=>by
 obtain⟨t,-,rfl⟩:=List.mem_map.1 a;exact zUP _
theorem zIv{v:Nat->Int}{p q:Nat->Rat}(h:∀j,j<C->p j=q j):zD6 C v p=zD6 C v q:=qD fun j a=>by rw[h j a]
theorem zTl{f:Nat->Bool}:((List.range n).all f=true)↔∀i,i<n->f i=true:=by
 rw[zW];exact⟨fun h i a=>h i (yR.2 a),fun h i a=>h i (yR.1 a)⟩
theorem zRW{a:List (Int × Int)}:zJa R C A y k a=true↔k=0/\a.length=C/\zGH a=true/\zRM R C A y (rqL a):=by
 unfold zJa zRM;rw[zAf,zAf,zAf,zAf,decide_eq_true_eq,decide_eq_true_eq,zTl,Bool.not_eq_true'];exact⟨fun h=>⟨h.1.1.1,h.1.1.2.1,h.1.1.2.2,h.1.2,h.2⟩,fun h=>⟨⟨⟨h.1,h.2.1,h.2.2.1⟩,h.2.2.2.1⟩,h.2.2.2.2⟩⟩
theorem zPN{q:Nat->Rat}(h:zRM R C A y q):zJa R C A y 0 (zAZ C fun t=>prQ (q t))=true:=
 zRW.2 ⟨rfl,zU _ _,zSA,fun i b=>by rw[zIv fun j a=>zQi a];exact h.1 i b,by rw[zIv fun j a=>zQi a];exact h.2⟩
theorem zUr(w:R<=4)(e:leM 1000 R C A)(d:∀i,i<R->(x i).natAbs<2^(6*E40)){j:Nat}(l:j<C)(b:k<R):
  Sm (x k)/\Sm (A k j)/\Sm (x k*A k j)/\Sm (yZ k fun t=>x t*A t j):=by
 have o:2^(6*E40)*4096<=BD:=by
  rw[zO5,show(4096:Nat)=2^12 from rfl,<-zAS];exact zFP (by have:=zJU;rw[zCp];omega)
 obtain⟨P,p⟩:∃P,2^(6*E40)=P:=⟨_,rfl⟩;obtain⟨B,g⟩:∃B,BD=B:=⟨_,rfl⟩;have a:∀z:Int,z.natAbs<B->Sm z:=fun z h=>zNm (g ▸ h)
 rw[p]at o d;rw[g]at o;have m:∀t,t<R->(x t*A t j).natAbs<=(P-1)*1000:=fun t c=>by
  rw[qT];exact qP (by have:=d t c;omega) (e t c j l)
 have q:=d k b;have r:=e k b j l;have s:=m k b;have u:=zNh (n:=k) (f:=fun t=>x t*A t j) fun t c=>m t oM
 have v:k*((P-1)*1000)<=4*((P-1)*1000):=zK _ oM;exact⟨a _ oM,a _ oM,a _ oM,a _ oM⟩
theorem zQv(f:R<=4)(d:leM 1000 R C (ent M))(h:∀i,i<R->(x i).natAbs<2^(6*E40)):zGg [qQ R fun i=>(qQ R x).getD i 0] M 1 R C:=by
 rw[qZ fun i c=>zGE c];intro i c j g k b;obtain rfl:i=0:=by omega
 have e:∀k,k<R->ent [qQ R x] 0 k=x k:=fun k b=>zDL rfl (qU b)
 have a:=zUr f d h g b;rw[e k b];refine⟨a.1,a.2.1,a.2.2.1,?_⟩;unfold zGK;rw[zG3,yF fun t l=>by rw[e t oM]];exact a.2.2.2
def zVP(f:Bool)(R C:Nat)(A:Nat->Nat->Int)(y:Nat->Int)(xs:List Int)(ps:List (Int × Int)):Bool:=if f=true then zJZ R C A y xs ps.length else zJa R C A y xs.length ps
theorem zNv{e h:Nat}(f:Bool)(g d i k:Value)(R C:Nat)(M:List (List Int))(y:Nat->Int)(xs:List Int)(c:List (Int × Int))(w:World)(n:zAo w g R C M)(hF:zBe R C M)(m:zAR w d (qQ C y))(q:zAR w i xs)(o:zDE w k c)(v:R<=1000)(s:C<=1000)
  (x:xs.length=R->zGi xs M R C) (B:∀p∈c,p.1.natAbs<2^e/\p.2.natAbs<2^e) (t:∀a,a<R->∀b,b<C->(ent M a b).natAbs<2^h) (D:∀j,j<C->(y j).natAbs<2^h) (A:1<=h) (z:e+h+1<=900):
  Calls Tryz.prog 22 #[g,d,.agg #[.bool f,i,k]] w fun e w'=>∃u,e= .returned u/\u= .bool (zVP f R C (ent M) y xs c)/\Below w.heap.size w w':=by
 cases f
 .by_cases l:xs.length=0
  .by_cases r:c.length=C
   .exact zNw g d i k R C M y xs c w n hF m q o s B t D A z l r
   exact zLz g d i k R C M y xs c w n hF m q o l r
  exact zL0 g d i k R C M y xs c w n hF m q o l
 by_cases l:c.length=0
 .by_cases r:xs.length=R
  .exact zKc g d i k R C M y xs c w n hF m q o v s x r l
  exact zJf g d i k R C M y xs c w n hF m q o r l
 exact zJg g d i k R C M y xs c w n hF m q o l
theorem zWb{z:Int}(h:z.natAbs<=1000000):z.natAbs<2^20:=zM h dE
theorem zVr{q:Nat->Rat}(h:∀t,t<C->HQ e (q t)):∀p∈zAZ C fun t=>prQ (q t),p.1.natAbs<2^e/\p.2.natAbs<2^e:=fun p a=>by
 obtain⟨t,b,rfl⟩:=List.mem_map.1 a;exact h t (yR.1 b)
theorem zSn(f c u:Value)(R C:Nat)(M:List (List Int))(y:Nat->Int)(w:World)(r:zKR R C (ent M) y w u)(l:zAo w f R C M)(hF:zBe R C M)(d:zAR w c (qQ C y))(m:R<=4)(A:C<=4)(k:leM 1000 R C (ent M))(v:∀j,j<C->(y j).natAbs<=1000000):
  Calls Tryz.prog 21 #[f,c,u] w fun e w'=>∃u,e= .returned u/\u= .bool true/\Below w.heap.size w w':=by
 rcases r with⟨xv,x,rfl,s,g,i⟩|⟨z,q,rfl,p,g,i⟩
 .have:=zIj f c xv (.slice none 0 0) R C M y _ [] w l hF d s (zDE.nil w) oM oM (zQv m k i)
  rwa[show zJZ R C (ent M) y (qQ R x) ([]:List (Int × Int)).length=true from zPM g]at this
 have:=zK0 (e:=170) (h:=20) f c (.slice none 0 0) z R C M y [] _ w l hF d (zAR.nil w) p oM oM (zVr i) (fun a n b d=>zWb (zF (k a n b d) dE)) (fun j o=>zWb (v j o)) dE dE;rwa[show zJa R C (ent M) y ([]:List Int).length (zAZ C fun t=>prQ (q t))=true from zPN g]at this
theorem LqO.ne_box{base:Nat}{M:List (List (Int × Int))}{q:Rat}(h:LqO w lo base v M)(c:zId w g q):some g≠v.ownBlock:=fun e=>by
 obtain⟨d,b⟩:=h.type e.symm;obtain⟨_,_,_,_,_,_,_,_,a,-⟩:=c;unfold Blk at a;rw[b]at a;injection a with a
 injection a with _ a
 exact absurd a dE
theorem zIc.ne_box{m:Nat}{E:Nat->Nat->Rat}{q:Rat}(h:zIc w lo b n m E)(d:zId w g q):b≠g:=fun e=>by
 obtain⟨cs,c,-⟩:=h;obtain⟨_,_,_,_,_,_,_,_,a,-⟩:=d;unfold Blk at a c;rw[<-e,c]at a;injection a with a
 injection a with _ a
 exact absurd a dE
theorem zQX(v:Value)(n:Nat)(M:List (List Int))(w:World)(h:zAo w v n n M)(hF:zBe n n M)(hn:n<=100)(he:1<=e)(hM:∀a,a<n->∀b,b<n->(ent M a b).natAbs<2^e)(hI:zGd n n fun l i=>((ent M i l:Int):Rat))(l3:(n+1)*(5^n*e)+n+2<=200000):
  Calls Tryz.prog 42 #[v] w fun e w'=>∃d,e= .returned (.tuple #[d,.int .i64 0])/\yA w' d (det n (ent M))/\Below w.heap.size w w':=by
 obtain⟨A,rfl,h⟩:=h;obtain⟨ao,C9,a3,rfl,N,e3,e4,-⟩:=id h;obtain rfl:n=C9:=by rw[<-N,hF.1]
 have B1:=xgv h;have HF:=xgv hF;obtain⟨W,e0⟩:∃W:Nat->Nat->Rat,(fun i j=>((ent M i j:Int):Rat))=W:=⟨_,rfl⟩;have A9:qS (∀(i:Nat) (v:Value) (w:World),i<n->zAR w v (qQ n (ent M i))->Calls Tryz.prog 59 #[v] w fun e w'=>∃a0,e= .returned a0/\zBa w' w.heap.size a0 (zAZ n fun t=>prQ (W i t))/\Below w.heap.size w w'):=⟨fun i v w hi hv=>by rw[<-e0];exact zJG v n (ent M i) w hv oM⟩;have A3:qS (∀i,i<n->∀j,j<n->HQ e (W i j)):=⟨fun i hi j z=>by rw[<-e0];exact HQ.int (hM i hi j z) he⟩;have h9:qS (zIf n 0 (ent M) W ((1:Int):Rat)):=⟨by rw[<-e0];exact zIf.start n (ent M)⟩;have A2:qS (∀k F G,zIf n k (ent M) F G->k<n->∃i,k<=i/\i<n/\F i k≠0):=⟨fun k F G h hk=>h.pivot hk hI⟩;obtain⟨h4,hD⟩:∃h4,det n (ent M)=h4:=⟨_,rfl⟩;have n8:qS (∀F G,zIf n n (ent M) F G->G=((h4:Int):Rat)):=⟨fun F G h=>hD ▸ h.end.1⟩;rw[hD];obtain⟨Z,hZ⟩:∃Z,5^n*e=Z:=⟨_,rfl⟩;have B4:qS (∀k,k<=n->5^k*e<=Z):=⟨fun k hk=>hZ ▸ zF3 hk⟩;have n4:qS (∀k,k<n->(k+1)*Z+2<=200000):=⟨fun k hk=>by
  rw[hZ]at l3;have:(k+1)*Z<=(n+1)*Z:=zK _ oM;omega⟩
 have x4:qS (∀k,k<n->5^k*e+(5^k*e+5^k*e+5^k*e)+1<=5^(k+1)*e/\5^(k+1)*e<=200000):=⟨fun k hk=>⟨zWf he,by
  have B:=zF3 (e:=e) (show k+1<=n by omega);rw[hZ]at l3 B;have:1*Z<=(n+1)*Z:=zK _ oM;omega⟩⟩
 clear h hF N hM hI l3 he e0 hD hZ;go_enter Tryz.func42,Tryz.ntmps42;go_upto_region 1 with(fail)
 refine zE ?_;intro W0 r0;obtain⟨p6,T1,T2,v7⟩:=jW r0;obtain⟨c1,c2,c3,c4,c5,c6⟩:=T1.three;clear r0;go_wp2_with fail
 refine(zCm 1 _ dE dE).mono ?_;rintro R w1 ⟨rv,rfl,⟨s5,a5,l5,k5,s6,a6,l6,k6,rfl,i5,i6⟩,l0⟩;have s1:=(zB W0.heap.size W0).alloc (xgf _) (.cells #[] tLq);have J:LqO w1 (w1.heap.size+1) W0.heap.size (.slice (some ⟨W0.heap.size,0,none⟩) 0 0) []:=(LqO.made W0 (xgf _)).I l0;have c7:=nx s1 l0;have m:zJT w w1 n ao a3:=⟨nx p6 c7,T1.I c7,T2.I c7⟩;have HI:qS (zAx w1 (.agg #[.bool s5,.slice a5 l5 k5,.bool s6,.slice a6 l6 k6]) ((1:Int):Rat)):=⟨_,_,_,_,_,_,_,_,rfl,i5,i6⟩;obtain⟨i0,l1⟩:∃g,W0.heap.size=g:=⟨_,rfl⟩;have C0:i0<=w1.heap.size:=by rw[<-l1];exact c7.size
 rw[l1]at J v7 ⊢
 clear c1 c2 c3 c4 c5 c6 i5 i6 T1 T2 l0 c7 s1 p6 l1;go_upto_region 4 with(fail)
 refine zE ?_;intro W2 r9;obtain⟨e5,X,w2⟩:=qL r9;have J:=J.I e5;have m:=m.I e5;have u:zId W2 w1.heap.size ((1:Int):Rat):=⟨_,_,_,_,_,_,_,_,X,HI.out.I e5⟩;obtain⟨q,s3⟩:∃g,w1.heap.size=g:=⟨_,rfl⟩;rw[s3]at J u C0 w2 ⊢
 clear r9 X HI e5 s3;go_wp2;go_loopw [4,6] (fun a0 iv wr=>∃i:Nat,i<=n/\iv= .int .i64 i/\LqO wr (q+1) i0 a0 (zEK i n W)/\zJT w wr n ao a3/\zId wr q ((1:Int):Rat)) (fun _ iv _=>n-(intOf iv).toNat)
 case atStart=>exact⟨0,by omega,rfl,J,m,u⟩
 clear J m u w2;obtain⟨i,hi,rfl,J,m,u⟩:=hrel;obtain⟨c1,c2,c3,c4,c5,c6⟩:=m.mat.three;by_cases s:i<n
 .obtain⟨bm,ra,rn,rc,zs,rfl,E0,hz,p1,t9⟩:=(B1.out.I m.bel).row (k:=i) (by rw[HF.out.1];exact s)
  obtain rfl:=HF.out.row_eq hz;have B0:=xgv t9;clear hz t9;go_wp2_with fail
  refine(A9.out i _ wr s B0.out).mono ?_;rintro e3 w3 ⟨rv,rfl,hr,f0⟩;obtain⟨ro,rk,rfl⟩:∃o k,rv= .slice o n k:=by
   obtain⟨o,k,e,-,-⟩:=hr.shape;rw[zU]at e;exact⟨_,_,e⟩
  have b9:=(zB w3.heap.size w3).alloc (xgf _) (.cells #[.slice ro n rk] tLq);have p8:=(J.I f0).I b9;have p9:=(u.I f0).I b9;have n3:=(m.I f0).I b9;have C3:q+1<=wr.heap.size:=u.lt;have HR:=xgv ((hr.mono C3).I b9);have HO:=xgv p8;have x5:=xgv n3;have h8:=xgv p9;have E8:=f0.size;clear c1 c2 c3 c4 c5 c6 p1 hr J p8 m n3 u p9 b9;go_wp2_with (at_builtin;go_loud (refine zTn rfl _ _ rfl (q+1) i0 u4 (zEK i n W) rfl HO.out w3.heap.size 1 _ (zAZ n fun t=>prQ (W i t)) rfl (yJ _ _ _) HR.out (by rw[zCP];omega) (by simp;omega) ?_;intro v' w' C5 s8 hx))
  go_roundw
  case rel=>exact⟨i+1,by omega,by simp,by rw[zG1];exact C5,x5.out.grown s8 (fun g O=>(HO.out.own g O).1) v7,h8.out.old (s8.block _ h8.out.lt (HO.out.ne_box h8.out)) hx⟩
  case measure=>simp[intOf];omega
 obtain rfl:i=n:=by omega
 obtain⟨o,c,rfl⟩:∃o c,u4= .slice o i c:=by
  obtain⟨o,c,e⟩:=J.shape;rw[zCP]at e;exact⟨_,_,e⟩
 by_cases C4:i=0
 .subst C4
  have i3:=xgv (n8.out _ _ h9.out);go_wp2;go_loopw [7] (fun kv wr=>kv= .int .i64 0/\zJT w wr 0 ao a3/\zId wr q ((1:Int):Rat)) (fun _ _=>0)
  case atStart=>exact⟨rfl,m,u⟩
  clear m u J;obtain⟨rfl,m,u⟩:=hrel;rw[i3.out]at u;obtain⟨b5,a,l,k,s',a',l',k',b2,m7⟩:=u;obtain⟨_,_,_,_,_,_,_,_,e9,i1,-⟩:=m7;cases e9;rw[Rat.num_intCast]at i1;have I1:=xgv i1;obtain⟨f1,f2,f3,f4,f5,f6,f7,f8⟩:=b2.four;obtain⟨r1,r2,r3,r4⟩:=m.res.two;clear i1;go_wp2;have hx:=m.res.lext2 dE (.bool b5) (.slice a l k);exact bodyPost_ret (zJI rfl _ rfl (m.res.put2 _ _) rfl) rfl ⟨_,rfl,I1.out.ext hx,yM (yM m.bel oM _ _) oM _ _⟩
 obtain⟨b,rfl,P⟩:=J.vs.hdq oM;have l2:w.heap.size+1<b:=by have:=J.own b rfl;omega
 have f9:b≠q:=P.ne_box u;have s4:w.heap.size+1<q:=by omega
 have n9:qS (∀r,r<i->∀j,j<i->HQ (5^0*e) (W r j)):=⟨by rw[zBq,yU];exact A3.out⟩;have o2:qS (HQ (0*Z+1) ((1:Int):Rat)):=⟨HQ.int (by rw[jZ];decide) oM⟩;have o6:=xgv P;clear J P;go_wp2;go_loopw [7] (fun kv wr=>∃(k:Nat) (F:Nat->Nat->Rat) (G:Rat),k<=i/\kv= .int .i64 k/\qS (zIf i k (ent M) F G)/\qS (zIc wr (q+1) b i i F)/\qS (∀r,r<i->∀j,j<i->HQ (5^k*e) (F r j))/\qS (HQ (k*Z+1) G)/\qS (zId wr q G)/\qS (zJT w wr i ao a3)) (fun kv _=>i-(intOf kv).toNat)
 case atStart=>exact⟨0,W,_,by omega,rfl,h9,o6,n9,o2,⟨u⟩,⟨m⟩⟩
 clear m u o6 n9 o2 h9 c1 c2 c3 c4 c5 c6;obtain⟨k,F,G,hk,rfl,e6,P,a1,i8,u,m⟩:=hrel;by_cases s:k<i
 .have t3:=A2.out k F G e6.out s
  obtain⟨w4,rfl⟩:∃x,x=wr:=⟨_,rfl⟩;go_wp2;go_loopw [8] (fun av D3=>∃a:Nat,k<=a/\a<=i/\av= .int .i64 a/\qS (∀r,k<=r->r<a->F r k=0)/\Below w4.heap.size w4 D3) (fun av _=>i-(intOf av).toNat)
  case atStart=>exact⟨k,by omega,by omega,rfl,⟨fun r B S=>by omega⟩,zB _ _⟩
  obtain⟨a,D5,D6,rfl,hz,hb⟩:=hrel;by_cases c0:a<i
  .obtain⟨ra,F0,p1,p2,b3⟩:=(P.out.I hb).row c0
   have A6:=xgv b3;obtain⟨ba,b5,o,l,c',s',o',l',p0,rfl,C1,R,N,e3,e4,d0⟩:=zB1 b3.prs (show k<i by omega);have b0:=xgv d0;obtain⟨sg,m9⟩:∃sg,zAB (F a k).num 0=sg:=⟨_,rfl⟩;have HK:qS ((sg==0)=decide (F a k=0)):=⟨m9 ▸ zJe⟩;have o9:qS (∀(v:Value) (w:World),zAx w v (F a k)->Calls Tryz.prog 31 #[v] w fun e w'=>e= .returned (.int .i64 sg)/\Below w.heap.size w w'):=⟨fun v w hv=>m9 ▸ zGy v _ w hv⟩;clear b3 d0 m9;go_wp2_with fail
   refine(o9.out _ wr b0.out).mono ?_;rintro e9 w5 ⟨rfl,b2⟩;have c9:=nx hb b2;by_cases d6:F a k=0
   .have s9:sg=0:=by
     have:=HK.out;rw[zT d6]at this;simpa using this
    subst s9;go_wp2;go_roundw
    case rel=>exact⟨a+1,by omega,by omega,by simp,⟨fun r B S=>by
     rcases zJ r a with g|g
     exact hz.out r B g;obtain rfl:r=a:=by omega
     exact d6⟩,c9⟩
    case measure=>simp[intOf];omega
   have s9:¬ sg=0:=by
    have:=HK.out;rw[zR d6]at this;simpa using this
   have a9:=xgv (P.out.I c9);have e8:=xgv (u.out.I c9);have d7:=xgv (m.out.I c9);have E3:¬ (a:Int)=(i:Int):=by omega
   clear p1 p2 R N e3 e4 A6 b0 o9 HK hz hb b2 c9 P u m t3 C1;by_cases B8:a=k;case' pos=>
    have B9:k=a:=B8.symm;subst B9;go_upto_region 19 with(fail)
    refine zE ?_;intro W6 b8;obtain⟨I,H,p7,m0,i4,i9,k0,n2,t4⟩:∃(I:Nat->Nat->Rat) (H:Rat),qS (zIf i k (ent M) I H)/\qS (zIc W6 (q+1) b i i I)/\qS (∀r,r<i->∀j,j<i->HQ (5^k*e) (I r j))/\qS (HQ (k*Z+1) H)/\qS (zId W6 q H)/\qS (zJT w W6 i ao a3)/\qS (I k k≠0):=by
     rw[b8.out];exact⟨F,G,e6,a9,a1,i8,e8,d7,⟨d6⟩⟩
    clear b8 a9 e8 d7
   case' neg=>
    have E4:¬ (a:Int)=(k:Int):=by omega
    obtain⟨oa,Y,p1,p2,t7⟩:=a9.out.row c0;obtain⟨ok,cz,p3,p4,b4⟩:=a9.out.row s;have VA:=xgv t7;have VK:=xgv b4;obtain⟨cs,l4,s2,-⟩:=id a9.out;have n5:=xgv s2;have h6:=xgv l4;have C8:=l4.lt;clear t7 b4 l4 s2;go_upto_region 17 with(fail)
    refine zBJ rfl (RIS w5 (w5.heap.size) _ 51
      [⟨0,65,fun _ v=>v= .slice (some ⟨b,0,none⟩) i c⟩,⟨1,66,fun _ v=>v= .int .i64 k⟩,⟨2,67,fun _ v=>v= .slice (some ⟨b,0,none⟩) i c⟩,⟨3,68,fun _ v=>v= .int .i64 a⟩,⟨4,69,fun _ v=>v= .slice (some ⟨b,0,none⟩) i c⟩,⟨5,70,fun _ v=>v= .int .i64 a⟩,⟨6,71,fun _ v=>v= .pointer (some ⟨b,a,none⟩)⟩,⟨7,72,fun _ v=>v= .slice oa i Y⟩,⟨8,73,fun _ v=>v= .slice (some ⟨b,0,none⟩) i c⟩,⟨9,74,fun _ v=>v= .int .i64 k⟩,⟨10,75,fun _ v=>v= .pointer (some ⟨b,k,none⟩)⟩,⟨11,76,fun _ v=>v= .slice ok i cz⟩,⟨12,77,fun _ v=>v= .pointer (some ⟨b,k,none⟩)⟩,⟨14,78,fun _ v=>v= .pointer (some ⟨b,a,none⟩)⟩]
      [] [] 13 15 (fun w=>w.setCell ⟨b,k,none⟩ (.slice oa i Y)) (fun _ w=>w.setCell ⟨b,a,none⟩ (.slice ok i cz))) kR (RIS.start RI.start) ?fin1 ?steps1
    case steps1=>
     refine⟨?_,?_,?_,?_,?_,?_,?_,?_,?_,?_,?_,?_,?_,?_,?_,?_,trivial⟩
     .refine zV.lift kR kR dE ?_
      intro L T D C hd E hI K hK;try refine zD rfl ?_
      have zt:T[4]?=some (.slice (some ⟨b,0,none⟩) i c):=hI.keep 4 sI sI;go_simp;exact hK _ _ (hI.y mm0 rfl)
     .refine zV.lift kR kR dE ?_
      intro L T D C hd E hI K hK;try refine zD rfl ?_
      have zt:T[7]?=some (.int .i64 k):=hI.keep 7 sI sI;go_simp;exact hK _ _ (hI.y mm1 rfl)
     .intro L T D C hd E hI K hK
      try refine zD rfl ?_
      have zt:T[4]?=some (.slice (some ⟨b,0,none⟩) i c):=hI.keep sI sI;go_simp;exact hK _ _ (hI.value E kR C dE ⟨2,67,_⟩ mm2 rfl (fun _=>rfl))
     .intro L T D C hd E hI K hK
      try refine zD rfl ?_
      have zt:T[8]?=some (.int .i64 a):=hI.keep sI sI;go_simp;exact hK _ _ (hI.value E kR C dE ⟨3,68,_⟩ mm3 rfl (fun _=>rfl))
     .refine zV.lift kR kR dE ?_
      intro L T D C hd E hI K hK;try refine zD rfl ?_
      have zt:T[4]?=some (.slice (some ⟨b,0,none⟩) i c):=hI.keep 4 sI sI;go_simp;exact hK _ _ (hI.y mm4 rfl)
     .refine zV.lift kR kR dE ?_
      intro L T D C hd E hI K hK;try refine zD rfl ?_
      have zt:T[8]?=some (.int .i64 a):=hI.keep 8 sI sI;go_simp;exact hK _ _ (hI.y mm5 rfl)
     .refine zV.lift kR kR dE ?_
      intro L T D C hd E hI K hK;try refine zD rfl ?_
      obtain⟨v4,H7,rfl⟩:=hI.v mm4 (hd 4);obtain⟨v5,H8,rfl⟩:=hI.v mm5 (hd 5);go_simp;exact hK _ _ (hI.y mm6 rfl)
     .refine zV.lift kR kR dE ?_
      intro L T D C hd E hI K hK;try refine zD rfl ?_
      obtain⟨v6,H9,rfl⟩:=hI.v mm6 (hd 6);have B5:=hI.cell p1 oM aU;go_simp;exact hK _ _ (hI.y mm7 rfl)
     .refine zV.lift kR kR dE ?_
      intro L T D C hd E hI K hK;try refine zD rfl ?_
      have zt:T[4]?=some (.slice (some ⟨b,0,none⟩) i c):=hI.keep 4 sI sI;go_simp;exact hK _ _ (hI.y mm8 rfl)
     .refine zV.lift kR kR dE ?_
      intro L T D C hd E hI K hK;try refine zD rfl ?_
      have zt:T[7]?=some (.int .i64 k):=hI.keep 7 sI sI;go_simp;exact hK _ _ (hI.y mm9 rfl)
     .refine zV.lift kR kR dE ?_
      intro L T D C hd E hI K hK;try refine zD rfl ?_
      obtain⟨v8,I2,rfl⟩:=hI.v mm8 (hd 8);obtain⟨v9,I3,rfl⟩:=hI.v mm9 (hd 9);go_simp;exact hK _ _ (hI.y zHa rfl)
     .refine zV.lift kR kR dE ?_
      intro L T D C hd E hI K hK;try refine zD rfl ?_
      obtain⟨F3,H1,rfl⟩:=hI.v zHa (hd 10);have B5:=hI.cell p3 oM aU;go_simp;exact hK _ _ (hI.y zHH rfl)
     .refine zV.lift kR kR dE ?_
      intro L T D C hd E hI K hK;try refine zD rfl ?_
      obtain⟨v0,G9,rfl⟩:=hI.v mm0 (hd 0);obtain⟨v1,H0,rfl⟩:=hI.v mm1 (hd 1);go_simp;exact hK _ _ (hI.y zHT rfl)
     .intro L T D C hd E hI K hK
      try refine zD rfl ?_
      obtain⟨a4,b7⟩:=hI.first E kR C dE sI sI sI
      obtain⟨_,H3,rfl⟩:=a4.v zHT (hd 12);obtain⟨_,I0,rfl⟩:=a4.v mm7 (hd 7);have hh:=a4.old b oM sI;have B6:=(zKZ hh).trans p3;have B7:=(zH2 hh).trans p4;clear hh;go_simp;exact hK _ _ b7
     .intro L T D C hd E hI K hK
      try refine zD rfl ?_
      obtain⟨V,H5,n0⟩:=hI.val mm2 (hd 2) (fun _ _ _ h=>h);replace n0:V= .slice (some ⟨b,0,none⟩) i c:=n0 D;subst n0;obtain⟨v3,H6,n1⟩:=hI.val mm3 (hd 3) (fun _ _ _ h=>h);replace n1:v3= .int .i64 a:=n1 D;subst n1;go_simp;exact hK _ _ (hI.value E kR C dE ⟨14,78,_⟩ zIh rfl (fun _=>rfl))
     intro L T D C hd E hI K hK;try refine zD rfl ?_
     obtain⟨w0,rfl,a4,b7⟩:=hI.second (hd 13) C sI sI sI;obtain⟨_,H4,rfl⟩:=a4.v zIh (hd 14);obtain⟨_,H2,rfl⟩:=a4.v zHH (hd 11);have hh:Blk w0 b tLq cs:=(a4.old b oM sI).trans h6.out;have B7:=(hh.set_ k (.slice oa i Y)).frozen a;obtain⟨a0,B6⟩:=zJY (hh.set_ k (.slice oa i Y)) (k:=a) (by have:=n5.out;simp;omega);clear hh;go_simp;exact hK _ _ b7
    intro T D2 b7;obtain⟨w6,hI,w9⟩:=b7.fin dE;obtain⟨F4,q0,rfl⟩:=hI.v mm0 rfl;obtain⟨F5,q1,rfl⟩:=hI.v mm1 rfl;obtain⟨G0,q2,rfl⟩:=hI.v mm2 rfl;obtain⟨G2,q3,rfl⟩:=hI.v mm3 rfl;obtain⟨G3,q4,rfl⟩:=hI.v mm4 rfl;obtain⟨G4,q5,rfl⟩:=hI.v mm5 rfl;obtain⟨G5,q6,rfl⟩:=hI.v mm6 rfl;obtain⟨G6,q7,rfl⟩:=hI.v mm7 rfl;obtain⟨D1,q8,rfl⟩:=hI.v mm8 rfl;obtain⟨G7,q9,rfl⟩:=hI.v mm9 rfl;obtain⟨F6,x0,rfl⟩:=hI.v zHa rfl;obtain⟨F7,x1,rfl⟩:=hI.v zHH rfl;obtain⟨F8,x2,rfl⟩:=hI.v zHT rfl;obtain⟨F9,x3,rfl⟩:=hI.v zIh rfl;have hT:=zCW [(65,.slice (some ⟨b,0,none⟩) i c),(66,.int .i64 k),(67,.slice (some ⟨b,0,none⟩) i c),(68,.int .i64 a),(69,.slice (some ⟨b,0,none⟩) i c),(70,.int .i64 a),(71,.pointer (some ⟨b,a,none⟩)),(72,.slice oa i Y),(73,.slice (some ⟨b,0,none⟩) i c),(74,.int .i64 k),(75,.pointer (some ⟨b,k,none⟩)),(76,.slice ok i cz),(77,.pointer (some ⟨b,k,none⟩)),(78,.pointer (some ⟨b,a,none⟩))]
     (fun j z=>hI.keep j (by simp only[xgm]at z ⊢;simp[z]) (by simp only[xgm]at z ⊢;simp[z]))
     (by simp only[xgm];simp[q0,q1,q2,q3,q4,q5,q6,q7,q8,q9,x0,x1,x2,x3]) hI.size
    have E2:=hI.lext;have a2:=hI.bel (w5.heap.size) oM aU;have E5:=hI.old;clear hI;simp only[List.foldl_cons,List.foldl_nil,xgh,xgi,xgj,ptr]at hT;subst hT;clear q0 q1 q2 q3 q4 q5 q6 q7 q8 q9 x0 x1 x2 x3;have C7:D2=(w6.setCell ⟨b,k,none⟩ (.slice oa i Y)).setCell ⟨b,a,none⟩ (.slice ok i cz):=w9;subst C7;clear w9 p1 p2 p3 p4;obtain⟨g1,g2,g3⟩:=(a9.out.I a2).put s (VA.out.I a2);obtain⟨g4,g6,g7⟩:=g1.put c0 ((VK.out.I a2).old (fun g O=>g3 g ((VK.out.I a2).neLq (h6.out.I a2) g O)) g2);have t0:∀g,g≠b->((w6.setCell ⟨b,k,none⟩ (.slice oa i Y)).setCell ⟨b,a,none⟩ (.slice ok i cz)).heap[g]?=w6.heap[g]?:=fun g O=>(g7 g O).trans (g3 g O)
    have k4:=(e8.out.I a2).old (t0 q (zL f9)) (g2.trans g6);have h5:=((d7.out.I a2).set l2 k (.slice oa i Y)).set l2 a (.slice ok i cz);have m5:zIc ((w6.setCell ⟨b,k,none⟩ (.slice oa i Y)).setCell ⟨b,a,none⟩ (.slice ok i cz)) (q+1) b i i (fun r=>if r=k then F a else if r=a then F k else F r):=g4.congr fun r hr j z=>by
     by_cases R:r=a
     .rw[zC R,zA oM,zC R]
     rw[zA R];by_cases N:r=k
     .rw[zC N,zC N]
     rw[zA N,zA N,zA R]
    generalize (w6.setCell ⟨b,k,none⟩ (.slice oa i Y)).setCell ⟨b,a,none⟩ (.slice ok i cz)=W5 at k4 h5 m5 ⊢
    have o4:=xgv m5;have n6:=xgv h5;have o8:=xgv k4;obtain⟨y1,y2,y3,y4,y5,y6,y7,y8,X,hy⟩:=k4;have HY:=xgv hy;obtain⟨r1,r2,r3,r4,r5,r6,r7,r8⟩:=X.four;have o0:qS (∀(v:Value) (w:World),zAx w v G->Calls Tryz.prog 64 #[v] w (zBW w (-G))):=⟨fun v w hv=>zK4 (a:=k*Z+1) v G w hv i8.out (by have:=n4.out k s;have:k*Z<=(k+1)*Z:=zK _ oM;omega)⟩;clear g1 g2 g3 g4 g6 g7 t0 m5 h5 hy a9 e8 d7 VA VK n5 h6 a2 C8;go_upto_region 18 with(fail)
    go_wp2_with fail
    refine(o0.out _ W5 HY.out).mono ?_;rintro e9 w7 ⟨rv,rfl,⟨s5,a5,l5,k5,s6,a6,l6,k6,rfl,i5,i6⟩,c8⟩;have a8:=xgv ((o8.out.I c8).put (p:=-G) ⟨_,_,_,_,_,_,_,_,rfl,i5,i6⟩);have b6:=X.I c8;clear i5 i6 r1 r2 r3 r4 r5 r6 r7 r8;obtain⟨r1,r2,r3,r4,r5,r6,r7,r8⟩:=b6.four;go_upto_region 19 with(fail)
    refine zE ?_;intro W6 b8;obtain⟨I,H,p7,m0,i4,i9,k0,n2,t4⟩:∃(I:Nat->Nat->Rat) (H:Rat),qS (zIf i k (ent M) I H)/\qS (zIc W6 (q+1) b i i I)/\qS (∀r,r<i->∀j,j<i->HQ (5^k*e) (I r j))/\qS (HQ (k*Z+1) H)/\qS (zId W6 q H)/\qS (zJT w W6 i ao a3)/\qS (I k k≠0):=by
     rw[b8.out];refine⟨_,_,⟨e6.out.swap s c0 oM⟩,⟨(o4.out.I c8).box (fun g O=>zFS _ _ _ _ _ _ _ _ O) a8.out.2 oM f9⟩,⟨fun r hr j z=>?_⟩,⟨i8.out.neg⟩,⟨a8.out.1⟩,⟨(n6.out.I c8).set4 s4 0 _ _ _ _⟩,⟨by rw[zC rfl];exact d6⟩⟩;split;exact a1.out a c0 j z;split;exact a1.out k s j z;exact a1.out r hr j z
    clear b8 o4 n6 o8 HY a8 b6 X r1 r2 r3 r4 r5 r6 r7 r8 o0 c8
   all_goals
    obtain⟨y1,y2,y3,y4,y5,y6,y7,y8,X,hy⟩:=k0.out;have HY:=xgv hy;obtain⟨r1,r2,r3,r4,r5,r6,r7,r8⟩:=X.four;obtain⟨ok,cz,p1,p2,b3⟩:=m0.out.row s;obtain⟨bk,b5,o,l,c',s',o',l',p0,rfl,D8,R,N,e3,e4,d0⟩:=zB1 b3.prs s;have b0:=xgv d0;obtain⟨U,g9⟩:∃U,I k k=U:=⟨_,rfl⟩;have A1:qS (I k k=U):=⟨g9⟩;rw[g9]at b0;have o3:qS (HQ Z U):=⟨g9 ▸ (i4.out k s k s).mono (B4.out k oM)⟩;have x8:qS (k*Z+1+Z+1<=1000000):=⟨by have:=n4.out k s;rw[zS,yU]at this;omega⟩;have l9:=jK (H*U);clear b3 d0 hy g9;refine yD 9 [pcD 8 [] (fun w v=>zAx w v (H*U))] ?_;refine sRd ?_;refine sRc (fun D hI Gk hG=>by go_simp;exact ck hG (zE9 (a:=k*Z+1) (b:=Z) _ _ H U _ (HY.out.I hI.bel) (b0.out.I hI.bel) i9.out o3.out x8.out)) (fun D1 _=>?_);refine sRe ?_;intro w7 g8 s0;obtain⟨s6,a6,l6,k6,s7,a7,l7,k7,rfl,i6,i7⟩:=(show zAx _ _ _ from s0);have a8:=xgv ((k0.out.I g8).put (p:=H*U) ⟨_,_,_,_,_,_,_,_,rfl,i6,i7⟩);have o5:=xgv ((m0.out.I g8).box (fun g O=>zFS _ _ _ _ _ _ _ _ O) a8.out.2 oM f9);have n7:=xgv ((n2.out.I g8).set4 s4 0 (.bool s6) (.slice a6 l6 k6) (.bool s7) (.slice a7 l7 k7));have b6:=X.I g8;clear i6 i7 s0 r1 r2 r3 r4 r5 r6 r7 r8 p1 p2 R N e3 e4 l9 X b0 HY;obtain⟨r1,r2,r3,r4,r5,r6,r7,r8⟩:=b6.four;go_wp2;go_loopw [9] (fun iv wr=>∃(r:Nat) (f:Nat->Nat->Rat),k<r/\r<=i/\iv= .int .i64 r/\qS (zRK i k r (ent M) f H)/\qS (f k k=U)/\qS (zIc wr (q+1) b i i f)/\qS (∀t,t<i->∀j,j<i->HQ (if k<t/\t<r then 5^(k+1)*e else 5^k*e) (f t j))/\qS (zId wr q (H*U))/\qS (zJT w wr i ao a3)) (fun iv _=>i-(intOf iv).toNat)
    case atStart=>exact⟨k+1,I,by omega,by omega,by simp,⟨⟨p7.out,fun a B S=>by omega,t4.out⟩⟩,A1,o5,⟨fun t ht j z=>by rw[if_neg oM];exact i4.out t ht j z⟩,⟨a8.out.1⟩,n7⟩
    clear a8 o5 n7 b6 r1 r2 r3 r4 r5 r6 r7 r8;obtain⟨r,f,E6,E7,rfl,e7,t1,P,a1,u,m⟩:=hrel;by_cases d5:r<i
    .obtain⟨oi,ci,q1,q2,m8⟩:=P.out.row d5
     obtain⟨ok,cz,p1,p2,b4⟩:=P.out.row s;obtain⟨bi,b5,o,l,c',s',o',l',p0,rfl,D7,R,N,e3,e4,t5⟩:=zB1 m8.prs s;obtain⟨D4,t,x,y,G8,t',x',y',z',rfl,D9,d1,d2,d3,d4,t6⟩:=zB1 b4.prs s;have A7:=xgv m8;have A8:=xgv b4;have B2:=xgv t5;have B3:=xgv t6;have d8:qS (∀j,j<i->HQ (5^k*e) (f r j)):=⟨fun j z=>by have:=a1.out r d5 j z;rwa[zA oM]at this⟩;have d9:qS (∀j,j<i->HQ (5^k*e) (f k j)):=⟨fun j z=>by have:=a1.out k s j z;rwa[zA oM]at this⟩;have h7:=xgv (x4.out k s);obtain⟨Q,h0⟩:∃Q,f r k/f k k=Q:=⟨_,rfl⟩;have o7:qS (HQ (5^k*e+5^k*e) Q):=⟨h0 ▸ (d8.out k s).div (d9.out k s) e7.out.pk⟩;have x9:qS (∀(v1 V:Value) (w:World),zAx w v1 (f r k)->zAx w V (f k k)->Calls Tryz.prog 32 #[v1,V] w (zBW w Q)):=⟨fun v1 V w k1 k2=>h0 ▸ zFQ (a:=5^k*e) (b:=5^k*e) v1 V _ _ w k1 k2 (d8.out k s) (d9.out k s) (by have:=h7.out;omega) e7.out.pk⟩;have x7:qS (∀(v1 V v3:Value) (w:World),q+1<=w.heap.size->zBa w (q+1) v1 (zAZ i fun j=>prQ (f r j))->zBa w (q+1) V (zAZ i fun j=>prQ (f k j))->zAx w v3 Q->Calls Tryz.prog 60 #[v1,V,v3] w fun e w'=>∃a0,e= .returned a0/\zBa w' (q+1) a0 (zAZ i fun j=>prQ (f r j-Q*f k j))/\Below w.heap.size w w'):=⟨fun v1 V v3 w O B S h3=>(zJF (ea:=5^k*e) (eb:=5^k*e) (ec:=5^k*e+5^k*e) v1 V v3 i i (f r) (f k) Q w B.prs S.prs h3 (xgf _) oM d8.out d9.out o7.out (by have:=h7.out;omega)).mono fun e w' hh=>by
      obtain⟨a0,k1,k2,k3⟩:=hh;exact⟨a0,k1,k2.mono O,k3⟩⟩
     have l9:=jK Q;have C2:=zEd (q+1) (zAZ i fun j=>prQ (f r j-Q*f k j));have E1:q+1<=wr.heap.size:=u.out.lt;have o1:qS (∀t j,(if t=r then(fun j=>f r j-Q*f k j)else f t) j=if t=r then f r j-f r k/f k k*f k j else f t j):=⟨fun t j=>by rw[h0];split<;>rfl⟩;clear m8 b4 t5 t6 h0;go_upto_region 23 with(fail)
     refine yD 26 [pcD 24 [] (fun w v=>zAx w v Q),pcD 25 [24] (fun w v=>zBa w (q+1) v (zAZ i fun j=>prQ (f r j-Q*f k j)))] ?_;refine sRd ?_;refine sRc (fun D hI Gk hG=>by go_simp;exact ck hG (x9.out _ _ _ (B2.out.I hI.bel) (B3.out.I hI.bel))) (fun G1 _=>?_);refine sRc (fun D hI k8 Gk hG=>by go_simp;exact ck hG (x7.out _ _ _ _ (by have:=hI.bel.size;omega) (A7.out.I hI.bel) (A8.out.I hI.bel) k8)) (fun D0 _=>?_);refine sRe ?_;intro w8 l8 k8 k9;obtain⟨ro,rk,C6⟩:∃o k,D0= .slice o i k:=by
      obtain⟨o,k,e,-,-⟩:=(show zBa _ _ _ _ from k9).shape;rw[zU]at e;exact⟨_,_,e⟩
     subst C6;have m6:=P.out.I l8;obtain⟨_,_,z1,z2,-⟩:=m6.row d5;obtain⟨g1,g2,g3⟩:=m6.put d5 (show zBa _ _ _ _ from k9);have A4:=xgv (g1.congr (F:=fun t j=>if t=r then f r j-f r k/f k k*f k j else f t j) fun t _ j _=>o1.out t j);have A5:=xgv ((u.out.I l8).old (g3 q (zL f9)) g2);have x6:=xgv ((m.out.I l8).set l2 r (.slice ro i rk));clear g1 g2 g3 m6 k8 k9 p1 p2 q1 q2 d1 d2 d3 d4 R N e3 e4 l9 C2;go_wp2;go_roundw
     case rel=>
      refine⟨r+1,_,by omega,by omega,by simp,⟨e7.out.step d5 oM⟩,⟨by rw[if_neg oM];exact t1.out⟩,A4,⟨fun t ht j z=>?_⟩,A5,x6⟩;by_cases p5:t=r
      .subst p5
       rw[zC oM,zC rfl];have B:=(d8.out j z).sub (o7.out.mul (d9.out j z));have S:=o1.out t j;rw[zC rfl,zC rfl]at S;rw[<-S];exact B.mono (by have:=h7.out;omega)
      rw[zA p5];have B:=a1.out t ht j z;by_cases S:k<t/\t<r
      .rw[zC S]at B
       rw[zC oM];exact B
      rw[zA S]at B;rw[zA oM];exact B
     case measure=>simp[intOf];omega
    obtain rfl:r=i:=by omega
    go_wp2;go_roundw
    case rel=>exact⟨k+1,f,H*U,by omega,by simp,⟨by have:=e7.out.done s;rw[t1.out]at this;exact this⟩,P,⟨fun t ht j z=>by
     have B:=a1.out t ht j z;split at B;exact B;exact B.mono (zF3 oM)⟩,⟨(i9.out.mul o3.out).mono (by rw[zS,yU];omega)⟩,u,m⟩
    case measure=>simp[intOf];omega
  exfalso;obtain⟨r,B,S,h3⟩:=t3;exact h3 (hz.out r B oM)
 obtain rfl:k=i:=by omega
 have i3:=n8.out _ _ e6.out;subst i3;have m:=m.out;obtain⟨b5,a,l,k',s',a',l',E9,b2,m7⟩:=u.out;obtain⟨_,_,_,_,_,_,_,_,e9,i1,-⟩:=m7;cases e9;rw[Rat.num_intCast]at i1;have I1:=xgv i1;obtain⟨f1,f2,f3,f4,f5,f6,f7,f8⟩:=b2.four;obtain⟨r1,r2,r3,r4⟩:=m.res.two;clear i1;go_wp2;have hx:=m.res.lext2 dE (.bool b5) (.slice a l k');exact bodyPost_ret (zJI rfl _ rfl (m.res.put2 _ _) rfl) rfl ⟨_,rfl,I1.out.ext hx,yM (yM m.bel oM _ _) oM _ _⟩
theorem zMf(v:Value)(n:Nat)(M:List (List Int))(w:World)(h:zAo w v n n M)(hF:zBe n n M)(L:n<=100)(C:1<=e)(u:∀a,a<n->∀b,b<n->(ent M a b).natAbs<2^e)(hI:zGd n n fun l i=>((ent M i l:Int):Rat))(B:(n+1)*(5^n*e)+n+2<=200000):
  Calls Tryz.prog 13 #[v] w (zBk w (det n (ent M))):=by
 have E:qS (∀(v:Value) (w:World),zAo w v n n M->Calls Tryz.prog 42 #[v] w fun e w'=>∃d,e= .returned (.tuple #[d,.int .i64 0])/\yA w' d (det n (ent M))/\Below w.heap.size w w'):=⟨fun v w k=>zQX v n M w k hF L C u hI B⟩;obtain⟨A,rfl,D⟩:=id h;obtain⟨P,m,Q,rfl,-,-,-,-⟩:=id D;have H:=xgv h;clear h D hF C u hI B;go_enter Tryz.func13,Tryz.ntmps13;go_upto_region 1 with(fail)
 refine zE ?_;intro I x;obtain⟨t,F,c,R⟩:=jW x;obtain⟨o,p,q,r,J,K⟩:=F.three;clear x;go_wp2_with fail
 refine(E.out _ I (H.out.I t)).mono ?_;rintro e X ⟨d,rfl,hd,z⟩;obtain⟨s,a,l,k,rfl⟩:=hd.parts;have f:=xgv hd;have c:=c.I z;have g:=nx t z;clear hd o p q r J K;go_upto_region 2 with(fail)
 refine zE ?_;intro O y;obtain⟨j,G,S⟩:=qL y;have c:=c.I j;have g:=nx g j;have f:=xgv (f.out.ext (lx j));obtain⟨o,p,q,r⟩:=G.two;obtain⟨T,U,V,W⟩:=c.two;clear y;go_wp2;have N:=c.lext2 dE (.bool s) (.slice a l k);exact yS rfl rfl rfl (c.put2 _ _) (f.out.ext N) (yM (yM g oM _ _) oM _ _)
theorem zWR{w:World}{ops:Array Oper}{rest:List Oper}{o:Oper}{a:Act}{Q:Exit->Act->World->Prop}(P:o.guard=none)(s x:Operand)
  (U:o.op= .call {callee:=.builtin .append,args:=#[s,x],argTypes:=#[40,40]})
  (base:Nat) (v:Value) (d:List (Int × Int)) (X:a.eval s=v) (V:zBa w base v d) (b c:Nat) (e:List (Int × Int)) (W:e≠ []) (g:a.eval x= .slice (some ⟨b,0,none⟩) e.length c)
  (N:zCB w b e) (a7:d.length+e.length<=1099511627776) (O:base<=w.heap.size)
  (h:∀u w',zBa w' base u (d++e)->w.grownBy w' v.ownBlock->zBC w w'->wpList Tryz.prog ops Q rest (a.put o.dst u) w'):wpList Tryz.prog ops Q (o::rest) a w:=by
 obtain⟨i0,S,Z,a0,a3⟩:=info_parts Tryz.infoQ;obtain⟨B,F,L⟩:=V;obtain⟨cs,K,E⟩:=N;have t:B.length=d.length*4:=F.1;have a9:e.length*4<=cs.size:=by
  have a8:0<e.length:=List.length_pos_iff.2 W;obtain⟨_,_,_,_,_,_,_,_,-,-,-,a4,-⟩:=E (e.length-1) _ (xga oM);have:=(xge.1 a4).1;simp at this;omega
 have G:(cs.toList.take (e.length*4)).length=e.length*4:=by simp;omega
 refine wpList_append_own w P s x 40 U base tQ i0 _ 4 64 Tryz.underlying40 S Z a0 a3 rfl oM v d.length B X F ⟨b,0,none⟩ e.length c (cs.toList.take (e.length*4)) g G ?_ ?_ (by simp[maxLen];omega) oM O ?_
 .intro j a5 f
  have m:=(xge.1 f).1;rw[G]at m;rw[List.getElem?_take_of_lt m]at f;have:=cell_of_row w b j cs _ _ K;rw[jI];simp only[Nat.zero_add];rw[this];simpa using f
 .intro a5 Y
  obtain⟨j,f⟩:=List.mem_iff_getElem?.1 Y;have m:=(xge.1 f).1;rw[G]at m;rw[List.getElem?_take_of_lt m]at f;obtain⟨k,i⟩:∃k,j/4=k:=⟨_,rfl⟩;obtain⟨s1,a1,l1,c1,s2,a2,l2,c2,n,p,q,r,-⟩:=E k _ (xga oM);have M:j=k*4∨j=k*4+1∨j=k*4+2∨j=k*4+3:=by omega
  rcases M with rfl|rfl|rfl|rfl
  obtain rfl:=qC (n.symm.trans f);rfl;obtain rfl:=qC (p.symm.trans f);rfl;obtain rfl:=qC (q.symm.trans f);rfl;obtain rfl:=qC (r.symm.trans f);rfl
 intro u w' k1 J _;have g:=zCA F dE J;refine h u w' ⟨B++cs.toList.take (e.length*4),by simpa using k1,?_⟩ J g;intro k y i;rcases zJ k d.length with T|R
 .rw[List.getElem?_append_left T]at i
  obtain⟨s,a,l,c,I,z,H,A,n,p,q,r,C,D⟩:=L k y i;refine⟨s,a,l,c,I,z,H,A,?_,?_,?_,?_,C.ext g,D.ext g⟩<;>(rw[List.getElem?_append_left oM];assumption)
 rw[List.getElem?_append_right R]at i;have a6:=(xge.1 i).1;obtain⟨s,a,l,c,I,z,H,A,n,p,q,r,C,D⟩:=E _ y i;refine⟨s,a,l,c,I,z,H,A,?_,?_,?_,?_,C.ext g,D.ext g⟩;rw[List.getElem?_append_right oM,t,show k*4-d.length*4=(k-d.length)*4 by omega,List.getElem?_take_of_lt oM];exact n;rw[List.getElem?_append_right oM,t,show k*4+1-d.length*4=(k-d.length)*4+1 by omega,List.getElem?_take_of_lt oM];exact p;rw[List.getElem?_append_right oM,t,show k*4+2-d.length*4=(k-d.length)*4+2 by omega,List.getElem?_take_of_lt oM];exact q;rw[List.getElem?_append_right oM,t,show k*4+3-d.length*4=(k-d.length)*4+3 by omega,List.getElem?_take_of_lt oM];exact r
def zJz(n:Nat)(A:Nat->Nat->Int)(b:Nat->Int)(σ:Nat->Nat)(t:Nat):Nat->Rat:=fun i=>if i<n then((A (σ i) t:Int):Rat)else if i=n then((b t:Int):Rat)else if i=n+1+t then 1 else 0
theorem zJ1{b:Nat->Int}(h:i<n):zJz n A b σ t i=((A (σ i) t:Int):Rat):=zC h
theorem zJ0{b:Nat->Int}:zJz n A b σ t n=((b t:Int):Rat):=by unfold zJz;rw[zA oM,zC rfl]
theorem zP4{b:Nat->Int}:(zAZ n (fun i=>prQ (((A (σ i) t:Int)):Rat))++ [prQ ((b t:Int):Rat)])++zAZ C (fun i=>prQ (if(i:Int)=(t:Int)then 1 else 0))=zAZ (n+1+C) fun i=>prQ (zJz n A b σ t i):=by
 apply List.ext_getElem?;intro i;rcases zJ i n with h|h
 rw[List.getElem?_append_left (by simp[zU];omega),List.getElem?_append_left (by rw[zU];exact h),zBP h,zBP oM,zJ1 h];by_cases e:i=n
 .subst e
  rw[List.getElem?_append_left (by simp[zU]),List.getElem?_append_right (by rw[zU];omega),zBP oM,zJ0,zU,zAu];rfl
 rw[List.getElem?_append_right (by simp[zU];omega)];simp only[List.length_append,zU,List.length_singleton];rcases zJ i (n+1+C)with g|g
 .rw[zBP oM,zBP g]
  unfold zJz;rw[zA (show ¬ i<n by omega),zA e];by_cases a:i=n+1+t
  .rw[zC a,zC (show((i-(n+1):Nat):Int)=(t:Int) by omega)]
  rw[zA a,zA (show ¬ ((i-(n+1):Nat):Int)=(t:Int) by omega)]
 rw[List.getElem?_eq_none (by rw[zU];omega),List.getElem?_eq_none (by rw[zU];omega)]
theorem zR8{b:Nat->Int}(a:1<=e)(d:∀i,i<n->(A (σ i) t).natAbs<2^e)(f:(b t).natAbs<2^e):∀i,i<n+1+C->HQ e (zJz n A b σ t i):=fun i g=>by
 unfold zJz;split;rename_i h;exact HQ.int (d i h) a;split;exact HQ.int f a;have c:(1:Nat)<2^e:=zI dE (zX dE a);split;exact HQ.int (z:=1) c a;exact HQ.int (z:=0) (by have:=c;simp;omega) a
theorem zBI.grown{row:Option Nat}(h:zBI w o xs)(l:w.grownBy w' row)(n:∀g,row=some g->∃(cs:Array Value) (T:TypeId),w.heap[g]?=some (.cells cs T (0,0))/\T≠tNn):zBI w' o xs:=by
 obtain⟨j,k⟩:=h;refine⟨j,fun m=>?_⟩;obtain⟨b,p,cs,d,c,f⟩:=k m;refine⟨b,p,cs,d,(l.block b (Array.getElem?_eq_some_iff.1 c).1 fun e=>?_).trans c,f⟩;obtain⟨q,T,a,i⟩:=n b e.symm;rw[c]at a;injection a with a
 injection a with _ a
 exact i a.symm
theorem zLc.grown{d:List (Int × Int)}{row:Option Nat}(h:zLc w lo v d)(t:w.grownBy w' row)(x:∀g,row=some g->∃(cs:Array Value) (T:TypeId),w.heap[g]?=some (.cells cs T (0,0))/\T≠tQ)(y:zBC w w'):zLc w' lo v d:=by
 obtain⟨f,n,i,o,p,q,r,s⟩:=h;refine⟨f,n,i,o,p,q,r,fun u=>?_⟩;obtain⟨b,j,k,c⟩:=s u;obtain⟨cs,l,-⟩:=id c;refine⟨b,j,k,c.old (t.block b c.lt fun e=>?_) y⟩;obtain⟨z,T,a,m⟩:=x b e.symm;rw[l]at a;injection a with a
 injection a with _ a
 exact m a.symm
theorem zBI.wrN{t:TypeId}{d:Array Value}(h:zBI w o xs)(k:Blk w b t cs)(m:tNn≠t):zBI (wr w b t d) o xs:=by
 obtain⟨i,j⟩:=h;refine⟨i,fun l=>?_⟩;obtain⟨c,n,e,f,a,g⟩:=j l;exact⟨c,n,e,f,(zG7 (zPI k a m)).trans a,g⟩
theorem zMK(n0 m C R:Nat)(A:Nat->Nat->Rat):zD8 n0 29 m (zIo C R A):=fun _ _ _ _ _ _ d _ _ ⟨o,m,k,l,B,a,b,c⟩=>⟨o,m,k,l,B,a,b.wrN d dE,c⟩
theorem zMJ(n0 m:Nat)(R C:Int)(M:List (List Int)):zD8 n0 29 m (fun w v=>zAo w v R C M):=fun _ _ _ _ _ _ a _ _ h=>h.wrT a dE dE dE
theorem zAo.typd{R C:Int}(h:zAo w v R C M)(e:∀(b:Nat) (cs:Array Value) (t:TypeId),w.heap[b]?=some (.cells cs t (0,0))->t=31∨t=tI->w'.heap[b]?=w.heap[b]?)(x:zBC w w'):zAo w' v R C M:=by
 obtain⟨A,q,g,n,j,H,I,J,K,L⟩:=h;refine⟨A,q,g,n,j,H,I,J,K,fun s=>?_⟩;obtain⟨b,cs,m,d,o⟩:=L s;refine⟨b,cs,m,(e b cs _ d (.inl rfl)).trans d,fun k P r=>?_⟩;obtain⟨O,p,i,N,l,B,D,E,F,G⟩:=o k P r;refine⟨O,p,i,N,l,B,D,E,F,fun u=>?_⟩;obtain⟨a,y,c,f,z⟩:=G u;exact⟨a,y,yY.old ⟨c,f,z⟩ (e a c _ f (.inr rfl)) x⟩
theorem zTs{c:Option Addr}(h:zBI w c xs)(e:k<xs.length):
  ∃b off x,c=some ⟨b,off,none⟩/\b<w.heap.size/\xs[k]?=some x/\w.cell? ⟨b,off+k,none⟩=some (.int .i64 (x:Nat))/\x<=1000000:=by
 obtain⟨b,off,cs,f,d,g⟩:=h.2 (by rintro rfl;simp at e);have a:=xga e;exact⟨b,off,_,f,(Array.getElem?_eq_some_iff.1 d).1,a,by rw[cell_of_row w b (off+k) cs tNn _ d];exact g k _ a,h.1 _ (xgd a)⟩
def zUp:Nat->Nat
 |0=>1
 |k+1=>4*zUp k+3005
theorem zUq:∀{k:Nat},k<=3->zUp k<=63169
 |0,_=>by decide
 |1,_=>by decide
 |2,_=>by decide
 |3,_=>by decide
structure zOz(w wr:World)(R C b8:Nat)(A Tv xv:Value)(Mt:List (List Int))(no:Option Addr)(l:List Nat)(xs:Nat->Rat):Prop where
 bel:Below w.heap.size w wr
 t2:Blk wr w.heap.size 29 #[.int .i64 R,.int .i64 C,A]
 t8:Blk wr b8 29 #[.int .i64 C,.int .i64 R,Tv]
 mt:zAo wr (.agg #[.int .i64 C,.int .i64 R,Tv]) C R Mt
 rows:zBI wr no l
 x:zLc wr w.heap.size xv (zAZ R fun t=>prQ (xs t))
theorem zOz.I{wr:World}{A:Value}{xs:Nat->Rat}(h:zOz w wr R C b8 A Tv xv Mt no l xs)(a:Below wr.heap.size wr w'):zOz w w' R C b8 A Tv xv Mt no l xs:=
 ⟨nx h.bel a,h.t2.I a,h.t8.I a,h.mt.I a,h.rows.I a,h.x.I a⟩
theorem zOz.grown{wr:World}{A:Value}{xs:Nat->Rat}{row:Option Nat}(h:zOz w wr R C b8 A Tv xv Mt no l xs)(d:wr.grownBy w' row)(f:∀g,row=some g->w.heap.size<=g/\∃cs:Array Value,wr.heap[g]?=some (.cells cs tLq (0,0)))(k:zBC wr w'):zOz w w' R C b8 A Tv xv Mt no l xs:=by
 have i:∀(b:Nat) (cs:Array Value) (t:TypeId),wr.heap[b]?=some (.cells cs t (0,0))->t≠tLq->w'.heap[b]?=wr.heap[b]?:=fun b cs t e j=>d.block b (Array.getElem?_eq_some_iff.1 e).1 fun m=>by
  obtain⟨-,c,a⟩:=f b m.symm;rw[e]at a;injection a with a
  injection a with _ a
  exact j a
 refine⟨h.bel.grown d h.bel.size fun g e=>(f g e).1,(i _ _ _ h.t2 dE).trans h.t2,(i _ _ _ h.t8 dE).trans h.t8,zAo.typd h.mt (fun b cs t e j=>i b cs t e (by rcases j with rfl|rfl<;>decide)) k,h.rows.grown d fun g e=>?_,h.x.grown d (fun g e=>?_) k⟩
 .obtain⟨-,c,a⟩:=f g e
  exact⟨c,_,a,by decide⟩
 obtain⟨-,c,a⟩:=f g e;exact⟨c,_,a,by decide⟩
theorem LqV.old{M:List (List (Int × Int))}(h:LqV w lo v M)(e:∀g,lo<=g->w'.heap[g]?=w.heap[g]?)(i:∀(b:Nat) (cs:Array Value),w.heap[b]?=some (.cells cs tLq (0,0))->w'.heap[b]?=w.heap[b]?)(x:zBC w w'):LqV w' lo v M:=by
 obtain⟨d,n,f,o,p,q,r,s⟩:=h;refine⟨d,n,f,o,p,q,r,fun y=>?_⟩;obtain⟨b,cs,j,a,l⟩:=s y;refine⟨b,cs,j,(i b cs a).trans a,fun k A u=>?_⟩;obtain⟨z,m,c⟩:=l k A u;exact⟨z,m,c.old (fun g t=>e g (c.own g t).1) x⟩
theorem zOz.store{wr:World}{bx:Nat}{A c:Value}{xs ys:Nat->Rat}(h:zOz w wr R C b8 A Tv xv Mt no l xs)(p:Below w.heap.size w w')(e:∀(b:Nat) (cs:Array Value) (t:TypeId),wr.heap[b]?=some (.cells cs t (0,0))->t≠tQ->w'.heap[b]?=wr.heap[b]?)(q:zBC wr w')(m:zLc w' w.heap.size c (zAZ R fun t=>prQ (ys t))):zOz w w' R C b8 A Tv c Mt no l ys:=by
 refine⟨p,(e _ _ _ h.t2 dE).trans h.t2,(e _ _ _ h.t8 dE).trans h.t8,zAo.typd h.mt (fun b cs t f n=>e b cs t f (by rcases n with rfl|rfl<;>decide)) q,?_,m⟩;obtain⟨i,j⟩:=h.rows;refine⟨i,fun k=>?_⟩;obtain⟨b,o,cs,d,a,g⟩:=j k;exact⟨b,o,cs,d,(e _ _ _ a dE).trans a,g⟩
theorem zMr{x y z u:Value}(h:b≠g):((((w.setCell ⟨g,i,none⟩ x).setCell ⟨g,i+1,none⟩ y).setCell ⟨g,i+2,none⟩ z).setCell ⟨g,i+3,none⟩ u).heap[b]?=w.heap[b]?:=
 (qH _ ⟨g,i+3,none⟩ u b h).trans ((qH _ ⟨g,i+2,none⟩ z b h).trans ((qH _ ⟨g,i+1,none⟩ y b h).trans (qH w ⟨g,i,none⟩ x b h)))
structure zV5(w:World)(b:Nat):Prop where
 ex:∃cs:Array Value,w.heap[b]?=some (.cells cs tQ (0,0))
theorem zCB.blk{a:List (Int × Int)}(h:zCB w b a):zV5 w b:=⟨h.elim fun cs h=>⟨cs,h.1⟩⟩
theorem zV5.ne{t:TypeId}(h:zV5 w b)(e:w.heap[g]?=some (.cells cs t (0,0)))(a:t≠tQ):g≠b:=by
 rintro rfl;obtain⟨_,h⟩:=h.ex;rw[e]at h;injection h with h
 injection h with _ h
 exact a h
theorem zMe(v bv:Value)(R C:Nat)(M:List (List Int))(b:Nat->Int)(w:World)(h:zAo w v R C M)(o6:zAR w bv (qQ C b))(hF:zBe R C M)(hR:R<=4)(hC:C<=4)(he:1<=e)(E6:e<=4)(hM:∀d5,d5<R->∀b,b<C->(ent M d5 b).natAbs<2^e)(hb:∀j,j<C->(b j).natAbs<2^e):
  Calls Tryz.prog 9 #[v,bv] w fun e w'=>∃x y f,e= .returned (.tuple #[x,y,.bool f])/\(f=true↔Cmb C R (fun i j=>((ent M i j:Int):Rat)) fun j=>((b j:Int):Rat))/\Below w.heap.size w w':=by
 obtain⟨A,rfl,f7⟩:=id h;obtain⟨ao,n,n3,rfl,H,-,-,-⟩:=id f7;obtain rfl:R=n:=by rw[<-H,hF.1]
 obtain⟨bo,bn,bc,rfl,g2,g3,g4,-⟩:=id o6;obtain rfl:C=bn:=by rw[<-g2,zO]
 have g1:=xgv h;have C4:=xgv o6;have e8:qS (∀k,k<=4->5^k*e<=2500):=⟨fun k hk=>by
  have h1:=zF3 (e:=e) hk;have h2:5^4*e=625*e:=rfl;omega⟩
 have s8:qS (∀(v:Value) (w:World),zAo w v R C M->Calls Tryz.prog 24 #[v] w fun e w'=>∃u,e= .returned u/\zIo C R (fun i j=>((ent M i j:Int):Rat)) w' u/\Below w.heap.size w w'):=⟨fun v w k=>zIP v R C M w k hF oM oM he hM (by have:=e8.out R hR;omega)⟩;obtain⟨Mt,i0⟩:∃Mt,(yV C R fun d5 b=>ent M b d5)=Mt:=⟨_,rfl⟩;have HT:qS (∀(v:Value) (w:World),zAo w v R C M->Calls Tryz.prog 25 #[v] w fun e w'=>∃v,e= .returned v/\zAo w' v C R Mt/\Below w.heap.size w w'):=⟨fun v w k=>i0 ▸ zFA v R C M w k hF oM oM⟩;have m0:qS (zBe C R Mt):=⟨i0 ▸ zB7 _ _ _⟩;have s4:qS (∀i,i<C->∀j,j<R->ent Mt i j=ent M j i):=⟨fun i d j hj=>by rw[<-i0,zA9 d hj]⟩;have m7:=xgv hM;have C3:=xgv hb;have m5:=xgw he;have e6:=zFx C R fun i j=>((ent M i j:Int):Rat)
 have F1:=zAl C R Mt;clear h f7 H hF hM he g2 o6 hb i0 E6;obtain⟨AM,x0⟩:∃AM:Nat->Nat->Int,ent M=AM:=⟨_,rfl⟩;rw[x0]at s8 s4 m7 e6 ⊢
 clear x0;go_enter Tryz.func9,Tryz.ntmps9;go_upto_region 1 with(fail)
 refine zE ?_;intro W0 A1;obtain⟨n6,T2,J2⟩:=qL A1;have g1:=xgv (g1.out.I n6);obtain⟨c1,c2,c3,c4,c5,c6⟩:=T2.three;clear A1;have H6:=zMK W0.heap.size 3 C R fun i j=>((AM i j:Int):Rat)
 have H7:=zMJ W0.heap.size 3 C R Mt;refine zBK [pcD 1 [] (zIo C R fun i j=>((AM i j:Int):Rat)),pcD 3 [] (fun w v=>zAo w v C R Mt),pbA 4 29 3,pcD 5 [1] (zIo C R fun i j=>((AM i j:Int):Rat)),pbS 6 4 29 3] ?_;refine sRd ?_;refine sRc (fun K hI Gk a=>by go_simp;exact ck a (s8.out _ _ (g1.out.I hI.bel))) (fun K4 _=>?_);refine sRd ?_;refine sRc (fun K hI Gk a=>by go_simp;exact ck a (HT.out _ _ (g1.out.I hI.bel))) (fun K7 V=>?_);obtain⟨_,-,_,rfl,U⟩:=V;obtain⟨ta,tn,tc,rfl,G0,-⟩:=U;obtain rfl:C=tn:=by rw[<-G0];exact m0.out.1.symm
 refine sRa (cs:=#[.int .i64 0,.int .i64 0,.slice none 0 0]) fun b8 g8=>?_
 refine sRc (fun K hI h1 Gk a=>by go_simp;exact⟨a _ _ h1,zB _ _⟩) (fun l7 _=>?_);refine sRs b8 (.agg #[.int .i64 C,.int .i64 R,.slice ta C tc]) ?_;refine sRb ?_;simp only[FA,FC,FN,ptr,List.nil_append,List.cons_append,Act.put,xgh,xgi,xgj];intro w1 o3 _ h3 h5 k8 _;have T8:Blk w1 b8 29 #[.int .i64 C,.int .i64 R,.slice ta C tc]:=k8 _ rfl;obtain⟨no,n,nk,l,B0,rfl,hN,I4,I9,J0,n9⟩:=(show zIo _ _ _ _ _ from h5);have I8:n<=C:=n9.ec.le;have b4:=xgv n9;have v5:qS (∀(k:Int) (w:World),-1<=k->k<=1000->∀n:Nat,n<=1000->Calls Tryz.prog 27 #[.int .i64 n,.int .i64 k] w fun e w'=>∃u,e= .returned u/\zLc w' w.heap.size u (zAZ n fun t=>prQ (if(t:Int)=k then 1 else 0))/\Below w.heap.size w w'):=⟨fun k w h1 h2 n hn=>zOT n k w hn h1 h2⟩;have i7:=nx n6 o3;have T2:=T2.I o3;have s7:=xgv (show zAo w1 _ C R Mt from h3);clear n9 h5 k8 h3 e6 F1 c1 c2 c3 c4 c5 c6;obtain⟨c1,c2,c3,c4,c5,c6⟩:=T2.three;go_wp2_with fail
 refine(v5.out (-1) w1 oM oM R oM).mono ?_;rintro H Z ⟨xv,rfl,s0,b7⟩;have hO:LqO (Z.alloc (.cells #[] tLq)) Z.heap.size Z.heap.size (.slice (some ⟨Z.heap.size,0,none⟩) 0 0) []:=LqO.made Z (xgf _);have b6:=(zB Z.heap.size Z).alloc (xgf _) (.cells #[] tLq);have I7:w.heap.size<=Z.heap.size:=(nx i7 b7).size;have D5:qS (∀g,0<R->xv.ownBlock=some g->g<Z.heap.size):=⟨fun g H8 S=>by
  obtain⟨xo,xn,xc,rfl,k2,k3,k4,J⟩:=s0;obtain⟨b,rfl,k6,k7⟩:=J fun e=>by have:=congrArg List.length e;rw[zU]at this;simp at this;omega
  cases S;exact k7.lt⟩
 have HX:qS (zLc Z w.heap.size xv (zAZ R fun _=>prQ (((0:Int)):Rat))):=⟨by
  have:(zAZ R fun t=>prQ (if(t:Int)=-1 then 1 else 0))=zAZ R fun _=>prQ (((0:Int)):Rat):=zBL fun t _=>by rw[zA oM];rfl
  rw[<-this];obtain⟨xo,xn,xc,k1,k2,k3,k4,J⟩:=s0;exact⟨xo,xn,xc,k1,k2,k3,k4,fun hn=>(J hn).elim fun b hb=>⟨b,hb.1,zF i7.size hb.2.1,hb.2.2⟩⟩⟩
 have SB:zOz w (Z.alloc (.cells #[] tLq)) R C b8 (.slice ao R n3) (.slice ta C tc) xv Mt no l fun _=>(((0:Int)):Rat):=⟨nx (nx i7 b7) b6,(T2.I b7).I b6,(T8.I b7).I b6,(s7.out.I b7).I b6,(hN.I b7).I b6,HX.out.I b6⟩
 obtain⟨lo,F2⟩:∃g,Z.heap.size=g:=⟨_,rfl⟩;have b9:lo<=(Z.alloc (.cells #[] tLq)).heap.size:=by simp;omega
 clear HX s0 hN T2 T8 s7 i7 b7 b6 c1 c2 c3 c4 c5 c6 n6 o3;obtain⟨σ,W⟩:∃σ:Nat->Nat,(fun k=>l.getD k 0)=σ:=⟨_,rfl⟩;have m9:qS (∀k,l.getD k 0=σ k):=⟨fun k=>by rw[<-W]⟩;rw[W]at b4;obtain⟨N,hN⟩:∃N,n+1+C=N:=⟨_,rfl⟩;obtain⟨L,hL⟩:∃L:Nat->Nat->Rat,zJz n AM b σ=L:=⟨_,rfl⟩;have H0:qS (∀t i,zJz n AM b σ t i=L t i):=⟨fun t i=>by rw[hL]⟩;have m6:qS (∀t,t<C->∀i,i<N->HQ e (L t i)):=⟨fun t U i d=>by rw[<-hL];exact zR8 (C:=C) m5.out (fun i d=>m7.out _ (b4.out.lt i d) t U) (C3.out t U) i oM⟩;have s2:qS (∀t,(zAZ n (fun i=>prQ (L t i))++ [prQ (L t n)])++zAZ C (fun i=>prQ (if(i:Int)=(t:Int)then 1 else 0))=zAZ N fun i=>prQ (L t i)):=⟨fun t=>by
  rw[<-hN,<-hL,<-zP4,zJ0];congr 2;exact zBL fun i d=>by rw[zJ1 d]⟩
 have c9:qS ((∀t i,i<n->L t i=((AM (σ i) t:Int):Rat))/\∀t,L t n=((b t:Int):Rat)):=⟨⟨fun t i d=>by rw[<-hL];exact zJ1 d,fun t=>by rw[<-hL];exact zJ0⟩⟩;have v0:=xgv (zKQ.start n L fun _ _=>0);clear W hL m7;go_wp2;go_loopw [11,12] (fun u z wr=>∃(j m:Nat) (B:Nat->Nat->Rat),j<=C/\z= .int .i64 j/\LqO wr lo lo u (zEK m N B)/\qS (zKQ n j m L B)/\qS (∀k,k<m->∀i,i<N->HQ (5^k*e) (B k i))/\zOz w wr R C b8 (.slice ao R n3) (.slice ta C tc) xv Mt no l (fun _=>(((0:Int)):Rat))/\lo<=wr.heap.size) (fun _ z _=>C-(intOf z).toNat)
 case atStart=>exact⟨0,0,fun _ _=>0,by omega,rfl,F2 ▸ hO,v0,⟨fun k hk=>by omega⟩,SB,b9⟩
 clear hO SB b9 v0;obtain⟨j,m,B,hj,rfl,hO,a1,f5,SB,b9⟩:=hrel;obtain⟨c1,c2,c3,c4,c5,c6⟩:=SB.t2.three;by_cases c0:j<C
 .obtain⟨r,rfl⟩:∃x,x=wr:=⟨_,rfl⟩
  have s:=(zB r.heap.size r).alloc (xgf _) (.cells #[] tQ);have x9:zBa (r.alloc (.cells #[] tQ)) r.heap.size (.slice (some ⟨r.heap.size,0,none⟩) 0 0) []:=zBa.made r (xgf _);go_wp2;go_loopw [13,14] (fun u z wr=>∃i:Nat,i<=n/\z= .int .i64 i/\zBa wr r.heap.size u (zAZ i fun t=>prQ (L j t))/\Below r.heap.size r wr) (fun _ z _=>n-(intOf z).toNat)
  case atStart=>exact⟨0,by omega,rfl,x9,s⟩
  clear x9 s;obtain⟨i,d,rfl,hP,c⟩:=hrel;have D:=SB.I c;obtain⟨t1,t2,t3,t4,t5,t6⟩:=D.t8.three;by_cases p2:i<n
  .obtain⟨uo,uc,rfl⟩:∃o k,u13= .slice o i k:=by
    obtain⟨o,k,e,-,-⟩:=hP.shape;rw[zU]at e;exact⟨_,_,e⟩
   obtain⟨nb,C0,x,rfl,A9,hx,q1,B8⟩:=zTs D.rows (show i<l.length by omega);obtain rfl:x=σ i:=by have:=m9.out i;rw[xgb,hx]at this;exact this
   have s1:=b4.out.lt i p2;obtain⟨_,e9,f7⟩:=id D.mt;cases e9;obtain⟨bm,ra,rn,rc,zs,rfl,I1,hz,p1,p8⟩:=f7.row (k:=j) (by rw[m0.out.1];exact c0);obtain rfl:=m0.out.row_eq hz;have p7:=p8.len;rw[zO]at p7;have F6:=p7.1;subst F6;obtain⟨bb,f9,b3,d5,lc,v9,rfl,A5,a4,Q,H,V⟩:=p8.cell (k:=σ i) (by rw[zO];exact s1);rw[qU s1]at a4;injection a4 with a4
   have HV:=xgv V;have n0:qS (∀(v:Value) (w:World),yA w v f9->Calls Tryz.prog 28 #[v] w (zBW w (L j i))):=⟨fun v w k=>by
    rw[c9.out.1 j i p2,<-s4.out j c0 (σ i) s1,a4];exact zDB v f9 w k⟩
   have HP:=xgv hP;have a0:=xgv D;have e6:=jK (L j i);have A8:=zFw (L j i);clear V p8 hz a4 hP p7 f7 D;go_upto_region 10 with(fail)
   refine yD 14 [pcD 12 [] (fun w v=>zAx w v (L j i)),pcD 13 [12] (zTg (L j i))] ?_;refine sRd ?_;refine sRc (fun K hI Gk a=>by go_simp;exact ck a (n0.out _ _ (HV.out.ext (lx hI.bel)))) (fun G9 _=>?_);refine sRc (fun K hI n5 Gk a=>?_) (fun C1 V=>?_)
   .obtain⟨s5,a5,l5,J,s6,a6,l6,k6,rfl,F,G⟩:=(show zAx _ _ _ from n5)
    have s:=(zB K.heap.size K).alloc (xgf _) (.cells #[.bool s5,.slice a5 l5 J,.bool s6,.slice a6 l6 k6] tQ);go_simp;exact a _ _ ⟨_,_,_,_,_,_,_,_,_,rfl,yJ _ _ _,F.ext (lx s),G.ext (lx s)⟩
   obtain⟨_,-,n2,s5,a5,l5,J,s6,a6,l6,k6,rfl,-⟩:=V;refine sRe ?_;intro w5 o8 o1 b0;obtain⟨b',g5,x5,y5,r5,g6,x6,y6,r6,n4,o5,F,G⟩:=(show zTg _ _ _ from b0);cases n4;have I5:=xgv F;have I6:=xgv G;have d7:=HP.out.I o8;have n8:=nx c o8;have F8:=o8.size;have F7:=c.size;clear F G c1 c2 c3 c4 c5 c6 t1 t2 t3 t4 t5 t6 p1 q1 Q H o1 b0;go_wp2_with (at_builtin;go_loud (refine zTo rfl _ _ rfl r.heap.size (.slice uo i uc) (zAZ i fun t=>prQ (L j t)) rfl d7 n2 1 _ _ _ _ _ _ _ _ (prQ (L j i)) rfl o5 I5.out I6.out (by rw[zU];omega) oM ?_;intro v' w' p4 p0 G4))
   have b5:Below r.heap.size r w':=n8.grown p0 oM (fun g S=>by have:=HP.out.own g S;omega);go_roundw
   case rel=>exact⟨i+1,by omega,by simp,by rw[zEC];exact p4,b5⟩
   case measure=>simp[intOf];omega
  obtain rfl:n=i:=by omega
  obtain⟨uo,uc,rfl⟩:∃o k,u13= .slice o n k:=by
   obtain⟨o,k,e,-,-⟩:=hP.shape;rw[zU]at e;exact⟨_,_,e⟩
  obtain⟨bb,f9,b3,d5,lc,v9,rfl,A5,a4,Q,H,V⟩:=(C4.out.I D.bel).cell (k:=j) (by rw[zO];exact c0);rw[qU c0]at a4;injection a4 with a4
  have HV:=xgv V;have n0:qS (∀(v:Value) (w:World),yA w v f9->Calls Tryz.prog 28 #[v] w (zBW w (L j n))):=⟨fun v w k=>by
   rw[c9.out.2 j,a4];exact zDB v f9 w k⟩
  obtain⟨y,P⟩:∃y,rdB n B m (L j)=y:=⟨_,rfl⟩;have D1:qS (∀(O lv:Value) (w:World),lo<=w.heap.size->zBa w lo O (zAZ N fun i=>prQ (L j i))->LqV w lo lv (zEK m N B)->Calls Tryz.prog 29 #[O,lv,.int .i64 n] w fun e w'=>∃u,e= .returned u/\zBa w' lo u (zAZ N fun i=>prQ (y i))/\Below w.heap.size w w'):=⟨fun O lv w h0 h1 h2=>P ▸ zGR O lv lo n N m (L j) B w h1 h2 oM oM (by have:=a1.out.ec.le;omega) h0 a1.out.ec m5.out f5.out (m6.out j c0) (by have:=e8.out m (by have:=a1.out.ec.le;omega);omega)⟩;have n1:qS (∀i,i<N->HQ (5^m*e) (y i)):=⟨fun i d=>P ▸ zQZ m5.out oM a1.out.ec f5.out (m6.out j c0) m (xgf _) i d⟩;obtain⟨k,hk⟩:∃k,zDY n y=k:=⟨_,rfl⟩;have l9:qS (∀(O:Value) (w:World),zBa w lo O (zAZ N fun i=>prQ (y i))->Calls Tryz.prog 30 #[O,.int .i64 n] w fun e w'=>e= .returned (.int .i64 k)/\Below w.heap.size w w'):=⟨fun O w h1=>hk ▸ zEj O n N y w h1.prs oM oM⟩;have a7:qS (rdB n B m (L j)=y/\zDY n y=k):=⟨P,hk⟩;have HP:=xgv hP;have a0:=xgv SB;have HO:=xgv hO;have F3:m<=n:=a1.out.ec.le;clear V a4 hP D SB hO P hk;go_wp2_with fail
  refine(n0.out _ wr HV.out).mono ?_;rintro e5 w5 ⟨rv,rfl,⟨s5,a5,l5,J,s6,a6,l6,k6,rfl,F,G⟩,b2⟩;have s:=(zB w5.heap.size w5).alloc (xgf _) (.cells #[.bool s5,.slice a5 l5 J,.bool s6,.slice a6 l6 k6] tQ);have I5:=xgv (F.ext (lx s));have I6:=xgv (G.ext (lx s));have d7:=(HP.out.I b2).I s;have F8:=b2.size;have F7:=c.size;clear F G c1 c2 c3 c4 c5 c6 t1 t2 t3 t4 t5 t6 Q H;go_upto_region 12 with(at_builtin;refine zTo rfl _ _ rfl r.heap.size (.slice uo n uc) (zAZ n fun t=>prQ (L j t)) rfl d7 w5.heap.size 1 _ _ _ _ _ _ _ _ (prQ (L j n)) rfl (yJ _ _ _) I5.out I6.out (by rw[zU];omega) (by simp;omega) ?_;intro v6 w6 B1 k9 K1)
  have k9:World.grownBy (w5.alloc (.cells #[.bool s5,.slice a5 l5 J,.bool s6,.slice a6 l6 k6] tQ)) w6 (Value.ownBlock (.slice uo n uc)):=k9;have a9:Below r.heap.size r w6:=((nx c b2).alloc (nx c b2).size _).grown k9 (by simp;omega) (fun g S=>by have:=HP.out.own g S;omega);have d0:=a0.out.I a9;have s9:=xgv B1;have F9:=a9.size;clear B1 k9 d7 s I5 I6 c b2 HP;obtain⟨c1,c2,c3,c4,c5,c6⟩:=d0.t2.three;go_wp2_with fail
  refine(v5.out j w6 oM oM C oM).mono ?_;rintro e7 w7 ⟨K2,rfl,hu,i9⟩;obtain⟨qo,qn,qc,rfl,q2,q3,q4,-⟩:=id hu;obtain rfl:C=qn:=by rw[<-q2,zU]
  obtain⟨bu,rfl,G1,B7,-⟩:=hu.at_ (show 0<C by omega);have v4:=xgv B7;have o0:=s9.out.I i9;have J6:=i9.size;clear hu B7 c1 c2 c3 c4 c5 c6;go_wp2_with (at_builtin;go_loud (refine zWR rfl _ _ rfl r.heap.size _ (zAZ n (fun t=>prQ (L j t))++ [prQ (L j n)]) rfl o0 bu qc (zAZ C fun t=>prQ (if(t:Int)=(j:Int)then 1 else 0)) (fun e=>by have:=congrArg List.length e;rw[zU]at this;simp at this;omega) (by rw[zU];rfl) v4.out (by simp[zU];omega) oM ?_;intro v8 w8 p5 A7 G3))
  rw[s2.out]at p5;have h7:Below r.heap.size r w8:=(nx a9 i9).grown A7 oM (fun g S=>(o0.own g S).1);have J7:=h7.size;refine(D1.out _ _ w8 oM (p5.mono b9) (HO.out.I h7).vs).mono ?_;rintro e9 w9 ⟨u9,rfl,P,A3⟩;obtain⟨ro,rk,rfl⟩:∃o k,u9= .slice o N k:=by
   obtain⟨o,k,e,-,-⟩:=P.shape;rw[zU]at e;exact⟨_,_,e⟩
  have I:=xgv P;have b5:=nx h7 A3;have J8:=b5.size;clear p5 A7 G3 o0 P v4 s9 a9 i9 h7 A3 q2 q3 q4 G1;go_wp2_with fail
  refine(l9.out _ w9 I.out).mono ?_;rintro H2 l8 ⟨rfl,o4⟩;have I:=xgv (I.out.I o4);have n7:=nx b5 o4;have g9:=a0.out.I n7;have i3:=HO.out.I n7;have J3:=n7.size;clear b5 o4 a0 HO d0;by_cases p3:k<n
  .have F0:(k:Int)<(n:Int):=by omega
   have s:=(zB l8.heap.size l8).alloc (xgf _) (.cells #[.slice ro N rk] tLq);have a0:=xgv (g9.I s);have HO:=xgv (i3.I s);have I:=xgv (I.out.I s);clear g9 i3;go_wp2_with (at_builtin;go_loud (refine zTn rfl _ _ rfl lo lo u11 (zEK m N B) rfl HO.out l8.heap.size 1 _ (zAZ N fun i=>prQ (y i)) rfl (yJ _ _ _) I.out (by rw[zCP];omega) (by simp;omega) ?_;intro K3 Y F4 A6 G2))
   have f0:=a0.out.grown A6 (fun g S=>by obtain⟨E0,hc⟩:=HO.out.type S;have:=HO.out.own g S;exact⟨by omega,E0,hc⟩) G2;have B6:=A6.size;simp at B6;go_roundw
   case rel=>
    refine⟨j+1,m+1,upB B m y,by omega,by simp,?_,⟨?_⟩,⟨fun t U i d=>?_⟩,f0,by omega⟩
    .rw[zG1,zFo,zIT (E:=B) fun t U=>zEP U]
     exact F4
    .have:=a1.out.push (by rw[a7.out.1,a7.out.2];exact p3)
     rw[a7.out.1]at this;exact this
    by_cases e:t=m
    .subst e;rw[zFo];exact n1.out i d
    rw[zEP oM];exact f5.out t oM i d
   case measure=>simp[intOf];omega
  have F0:¬ (k:Int)<(n:Int):=by omega
  obtain⟨H1,b3,o,l2,c',s',o',l',d6,rfl,A4,Q,H,e3,e4,a3⟩:=zB1 I.out.prs (show n<N by omega);have g7:=xgv a3;obtain⟨sg,p9⟩:∃sg,zAB (y n).num 0=sg:=⟨_,rfl⟩;have HK:qS ((sg==0)=decide (y n=0)):=⟨p9 ▸ zJe⟩;have t9:qS (∀(v:Value) (w:World),zAx w v (y n)->Calls Tryz.prog 31 #[v] w fun e w'=>e= .returned (.int .i64 sg)/\Below w.heap.size w w'):=⟨fun v w V=>p9 ▸ zGy v _ w V⟩;clear a3 p9;go_wp2_with fail
  refine(t9.out _ l8 g7.out).mono ?_;rintro H3 Y ⟨rfl,i8⟩;have I:=xgv (I.out.I i8);have f0:=g9.I i8;have x8:=i3.I i8;have B6:=i8.size;clear Q H e3 e4 g7 g9 i3 t9;by_cases f8:y n=0
  .have l0:sg=0:=by
    have:=HK.out;rw[zT f8]at this;simpa using this
   subst l0;go_wp2;go_roundw
   case rel=>exact⟨j+1,m,B,by omega,by simp,x8,⟨a1.out.skip (by rw[a7.out.1,a7.out.2];exact p3) (by rw[a7.out.1];exact f8)⟩,f5,f0,by omega⟩
   case measure=>simp[intOf];omega
  have l0:¬ sg=0:=by
   have:=HK.out;rw[zR f8]at this;simpa using this
  have HF:qS (¬ Cmb C R (fun i j=>((AM i j:Int):Rat)) fun j=>((b j:Int):Rat)):=⟨(zQu (j:=j) b4.out (fun t U=>⟨fun i d=>c9.out.1 t i d,c9.out.2 t⟩) a1.out).2 c0 (by rw[a7.out.1,a7.out.2];exact p3) (by rw[a7.out.1];exact f8)⟩;have a0:=xgv f0;have s:=(zB Y.heap.size Y).alloc (xgf _) (.cells #[] tQ);have A0:zBa (Y.alloc (.cells #[] tQ)) Y.heap.size (.slice (some ⟨Y.heap.size,0,none⟩) 0 0) []:=zBa.made Y (xgf _);clear f0 x8;go_wp2;rw[show(sg !=0)=true by simpa using l0];go_loopw [15,16] (fun u z wr=>∃i:Nat,i<=C/\z= .int .i64 i/\zBa wr Y.heap.size u (zAZ i fun t=>prQ (y (n+1+t)/y n))/\Below Y.heap.size Y wr) (fun _ z _=>C-(intOf z).toNat)
  case atStart=>exact⟨0,by omega,rfl,A0,s⟩
  clear A0 s l0 HK;obtain⟨i,d,rfl,hP,c⟩:=hrel;have D:=a0.out.I c;obtain⟨c1,c2,c3,c4,c5,c6⟩:=D.t2.three;by_cases p2:i<C
  .obtain⟨G8,G7,rfl⟩:∃o k,u15= .slice o i k:=by
    obtain⟨o,k,e,-,-⟩:=hP.shape;rw[zU]at e;exact⟨_,_,e⟩
   obtain⟨q,hq⟩:∃q,n+1+i=q:=⟨_,rfl⟩;have J1:(n:Int)+1+(i:Int)=(q:Int):=by omega
   have J9:IntKind.i64.wrap ((n:Int)+1)=(n:Int)+1:=yB _ oM;have K0:IntKind.i64.wrap (q:Int)=(q:Int):=yB _ oM;have B3:q<N:=by omega
   have l1:n<N:=by omega
   obtain⟨ba,b3,o,l2,c',s',o',l',d6,eb,A4,Q,H,e3,e4,B4⟩:=zB1 (I.out.I c).prs B3;cases eb;obtain⟨bb,t,x1,x2,x3,t',x4,x5,x6,eb,A5,d1,d2,d3,d4,B5⟩:=zB1 (I.out.I c).prs l1;cases eb;have C9:=xgv B4;have D0:=xgv B5;have HP:=xgv hP;have C6:qS (∀(v1 v2:Value) (w:World),zAx w v1 (y q)->zAx w v2 (y n)->Calls Tryz.prog 32 #[v1,v2] w (zBW w (y q/y n))):=⟨fun v1 v2 w k1 k2=>zFQ (a:=5^m*e) (b:=5^m*e) v1 v2 _ _ w k1 k2 (n1.out q B3) (n1.out n l1) (by have:=e8.out m oM;omega) f8⟩;have e6:=jK (y q/y n);have A8:=zFw (y q/y n);clear B4 B5 hP D;go_upto_region 20 with(fail)
   refine yD 14 [pcD 5 [] (fun _ v=>v= .int .i64 q),pcD 12 [5] (fun w v=>zAx w v (y q/y n)),pcD 13 [12] (zTg (y q/y n))] ?_;refine sRd ?_;refine sRc (fun K hI Gk a=>by go_simp;exact⟨a _ _ rfl,zB _ _⟩) (fun l7 c7=>?_);obtain⟨_,-,c7⟩:=c7;obtain rfl:l7= .int .i64 q:=c7;refine sRd ?_;refine sRc (fun K hI h5 Gk a=>by go_simp;exact ck a (C6.out _ _ _ (C9.out.I hI.bel) (D0.out.I hI.bel))) (fun G9 _=>?_);refine sRc (fun K hI n5 Gk a=>?_) (fun C1 V=>?_)
   .obtain⟨s5,a5,l5,J,s6,a6,l6,k6,rfl,F,G⟩:=(show zAx _ _ _ from n5)
    have s:=(zB K.heap.size K).alloc (xgf _) (.cells #[.bool s5,.slice a5 l5 J,.bool s6,.slice a6 l6 k6] tQ);go_simp;exact a _ _ ⟨_,_,_,_,_,_,_,_,_,rfl,yJ _ _ _,F.ext (lx s),G.ext (lx s)⟩
   obtain⟨_,-,n2,s5,a5,l5,J,s6,a6,l6,k6,rfl,-⟩:=V;refine sRe ?_;intro K8 o7 _ o1 b0;obtain⟨b',g5,x5,y5,r5,g6,x6,y6,r6,n4,o5,F,G⟩:=(show zTg _ _ _ from b0);cases n4;have I5:=xgv F;have I6:=xgv G;have d7:=HP.out.I o7;have n8:=nx c o7;have J5:=o7.size;have J4:=c.size;clear F G c1 c2 c3 c4 c5 c6 d1 d2 d3 d4 Q H e3 e4 o1 b0;go_wp2_with (at_builtin;go_loud (refine zTo rfl _ _ rfl Y.heap.size (.slice G8 i G7) (zAZ i fun t=>prQ (y (n+1+t)/y n)) rfl d7 n2 1 _ _ _ _ _ _ _ _ (prQ (y q/y n)) rfl o5 I5.out I6.out (by rw[zU];omega) oM ?_;intro v' w' p4 p0 G4))
   have b5:Below Y.heap.size Y w':=n8.grown p0 oM (fun g S=>by have:=HP.out.own g S;omega);go_roundw
   case rel=>exact⟨i+1,by omega,by simp,by rw[zEC,hq];exact p4,b5⟩
   case measure=>simp[intOf];omega
  obtain rfl:i=C:=by omega
  go_wp2;go_ret3;exact⟨_,_,false,rfl,⟨fun h=>by simp at h,fun h=>absurd h HF.out⟩,nx a0.out.bel c⟩
 obtain rfl:C=j:=by omega
 have HF:qS (Cmb C R (fun i j=>((AM i j:Int):Rat)) fun j=>((b j:Int):Rat)):=⟨(zQu (j:=C) b4.out (fun t U=>⟨fun i d=>c9.out.1 t i d,c9.out.2 t⟩) a1.out).1 rfl⟩;have F3:m<=n:=a1.out.ec.le;obtain⟨uo,uc,rfl⟩:∃o k,u11= .slice o m k:=by
  obtain⟨o,v9,e⟩:=hO.shape;rw[zCP]at e;exact⟨_,_,e⟩
 have s3:=xgv hO.vs;have a0:=xgv SB;have v7:qS (∀t,t<R->HQ (zUp (m-m)) ((fun _=>(((0:Int)):Rat)) t)):=⟨fun t _=>by rw[zAu];exact HQ.int dE dE⟩;clear hO SB s2 m6;go_wp2;clear c1 c2 c3 c4 c5 c6;go_loopw [17] (fun z wr=>∃(i:Nat) (xs:Nat->Rat),i<=m/\z= .int .i64 ((i:Int)-1)/\qS (LqV wr lo (.slice uo m uc) (zEK m N B))/\qS (∀t,t<R->HQ (zUp (m-i)) (xs t))/\qS (zOz w wr R C b8 (.slice ao R n3) (.slice ta C tc) xv Mt no l xs)/\lo<=wr.heap.size) (fun z _=>(intOf z+1).toNat)
 case atStart=>exact⟨m,_,by omega,rfl,s3,v7,a0,b9⟩
 clear v7 s3 a0 b9;obtain⟨i,xs,d,hu,h8,f6,i4,b9⟩:=hrel;by_cases E9:i=0
 .subst E9
  subst hu;go_wp2;go_ret3;exact⟨_,_,true,rfl,⟨fun _=>HF.out,fun _=>rfl⟩,i4.out.bel⟩
 obtain⟨k,rfl⟩:∃k,i=k+1:=⟨i-1,by omega⟩;rw[show((k+1:Nat):Int)-1=(k:Int) by omega]at hu;subst hu;have e0:k<m:=by omega
 obtain⟨r,rfl⟩:∃x,x=wr:=⟨_,rfl⟩;obtain⟨p,hp⟩:∃p,zDY n (B k)=p:=⟨_,rfl⟩;have l1:n<N:=by omega
 have F5:p<n:=hp ▸ a1.out.ec.piv k e0;have t7:qS (B k p≠0):=⟨hp ▸ zE0 (a1.out.ec.piv k e0)⟩;obtain⟨bl,ra,rc,rfl,I0,p1,a2⟩:=h8.out.row (zEL e0);rw[zU]at p1 a2;obtain⟨ba,b3,o,l2,c',s',o',l',d6,rfl,A4,Q,H,e3,e4,a3⟩:=zB1 a2.prs (show n<N by omega);have D2:=xgv a2;have g7:=xgv a3;have l9:qS (∀(O:Value) (w:World),zBa w lo O (zAZ N fun i=>prQ (B k i))->Calls Tryz.prog 30 #[O,.int .i64 n] w fun e w'=>e= .returned (.int .i64 p)/\Below w.heap.size w w'):=⟨fun O w h1=>hp ▸ zEj O n N (B k) w h1.prs oM oM⟩;clear a2 a3 hp;go_upto_region 25 with(fail)
 refine zBK [pcD 5 [] (fun _ v=>v= .int .i64 p),pbA 13 tQ 4,pbS 15 13 tQ 4] ?_;refine sRd ?_;refine sRc (fun K hI Gk a=>by go_simp;exact ck a ((l9.out _ _ (D2.out.I hI.bel)).mono fun e w' hh=>⟨_,hh.1,rfl,hh.2⟩)) (fun l7 c7=>?_);obtain⟨_,-,c7⟩:=c7;obtain rfl:l7= .int .i64 p:=c7;refine sRd ?_;refine sRa (cs:=#[.bool false,.slice none 0 0,.bool false,.slice none 0 0]) fun h6 E1=>?_
 refine sRd ?_;refine sRs h6 (.agg #[.bool b3,.slice o l2 c',.bool s',.slice o' l' d6]) ?_;refine sRb ?_;simp only[FA,FC,FN,ptr,List.nil_append,List.cons_append,Act.put,xgh,xgi,xgj];intro w5 b2 h5 B9 _;have a8:Blk w5 h6 tQ #[.bool b3,.slice o l2 c',.bool s',.slice o' l' d6]:=B9 _ rfl;have hR:zId w5 h6 (B k n):=⟨_,_,_,_,_,_,_,_,a8,g7.out.I b2⟩;obtain⟨E,hE⟩:∃E,5^k*e=E:=⟨_,rfl⟩;obtain⟨X,hX⟩:∃X,zUp (m-(k+1))=X:=⟨_,rfl⟩;rw[hX]at f6;have c8:qS (∀i,i<N->HQ E (B k i)):=⟨fun i d=>hE ▸ f5.out k e0 i d⟩;have H9:X<=63169:=hX ▸ zUq oM;have H5:E<=2500:=hE ▸ e8.out k oM;have v3:qS (HQ (E+0*(E+X+1)) (B k n)):=⟨by rw[jZ];exact c8.out n l1⟩;clear Q H e3 e4 p1 a8 B9;go_wp2;go_loopw [20] (fun z wr=>∃(f:Nat) (T:Rat),f<=n/\z= .int .i64 f/\Below r.heap.size r wr/\qS (zId wr h6 T)/\qS (HQ (E+f*(E+X+1)) T)) (fun z _=>n-(intOf z).toNat)
 case atStart=>exact⟨0,_,by omega,rfl,b2,⟨hR⟩,v3⟩
 clear hR v3;obtain⟨f,T,hf,rfl,c,hR,d8⟩:=hrel;by_cases E7:f<n
 .by_cases E8:f=p
  .subst E8
   go_wp2;go_roundw
   case rel=>exact⟨f+1,T,by omega,by simp,c,hR,⟨d8.out.mono (Nat.add_le_add_left (zK _ (Nat.le_succ _)) _)⟩⟩
   case measure=>simp[intOf];omega
  have I3:¬ (f:Int)=(p:Int):=by omega
  have D:=i4.out.I c;have k0:f<N:=by omega
  have W:=b4.out.lt f E7;obtain⟨xo,xn,xc,rfl,x2,x3,x4,-⟩:=id D.x;obtain rfl:R=xn:=by rw[<-x2,zU]
  obtain⟨bx,rfl,o9,r0,-⟩:=D.x.at_ W;obtain⟨nb,C0,x,rfl,A9,hx,q1,B8⟩:=zTs D.rows (show f<l.length by omega);obtain rfl:x=σ f:=by have:=m9.out f;rw[xgb,hx]at this;exact this
  obtain⟨D9,G5,G6,eb,E5,p1,a2⟩:=(h8.out.I c).row (zEL e0);cases eb;rw[zU]at p1 a2;obtain⟨D8,b3,o,l2,c',s',o',l',d6,rfl,E3,Q,H,e3,e4,a3⟩:=zB1 a2.prs k0;obtain⟨y1,y2,y3,y4,y5,y6,y7,y8,a8,P⟩:=hR.out;have I:=xgv P;obtain⟨r1,r2,r3,r4,r5,r6,r7,r8⟩:=a8.four;have m8:=xgv a3;obtain⟨z1,z2,z3,z4,z5,z6,z7,z8,d1,d2,d3,d4,df,w0,w3⟩:=r0.cell (zBP W);have D6:qS (zAx wr (.agg #[.bool z1,.slice z2 z3 z4,.bool z5,.slice z6 z7 z8]) (xs (σ f))):=⟨_,_,_,_,_,_,_,_,rfl,w0,w3⟩;have e6:=jK (B k f*xs (σ f));have A8:=jK (T-B k f*xs (σ f));have E4:E+f*(E+X+1)+(E+X)+1<=1000000:=by
   have:f*(E+X+1)<=3*(E+X+1):=zK _ oM;omega
  clear a2 a3 P w0 w3 df;go_upto_region 30 with(fail)
  refine yD 17 [pcD 15 [] (fun w v=>zAx w v (B k f*xs (σ f))),pcD 16 [15] (fun w v=>zAx w v (T-B k f*xs (σ f)))] ?_;refine sRd ?_;refine sRc (fun K hI Gk a=>by go_simp;exact ck a (zE9 (a:=E) (b:=X) _ _ (B k f) (xs (σ f)) _ (m8.out.I hI.bel) (D6.out.I hI.bel) (c8.out f k0) (f6.out _ W) oM)) (fun K5 _=>?_);refine sRc (fun K hI o2 Gk a=>by go_simp;exact ck a (zK5 (a:=E+f*(E+X+1)) (b:=E+X) _ _ T (B k f*xs (σ f)) _ (I.out.I hI.bel) o2 d8.out ((c8.out f k0).mul (f6.out _ W)) E4)) (fun K6 _=>?_);refine sRe ?_;intro w6 d9 o2 A2;obtain⟨s5,a5,l5,J,s6,a6,l6,k6,rfl,F,G⟩:=(show zAx _ _ _ from A2);have B2:=(hR.out.I d9).put (p:=T-B k f*xs (σ f)) ⟨_,_,_,_,_,_,_,_,rfl,F,G⟩;have D7:=a8.I d9;have C2:=xgv (zA8 (nx c d9) E1 0 (.bool s5) (.slice a5 l5 J) (.bool s6) (.slice a6 l6 k6));have C8:=xgv B2.1;have D4:qS (HQ (E+(f+1)*(E+X+1)) (T-B k f*xs (σ f))):=⟨(d8.out.sub ((c8.out f k0).mul (f6.out _ W))).mono (by rw[zS,yU];omega)⟩;clear B2 F G o2 A2 r1 r2 r3 r4 r5 r6 r7 r8 d1 d2 d3 d4 Q H e3 e4 p1 q1 a8;obtain⟨r1,r2,r3,r4,r5,r6,r7,r8⟩:=D7.four;go_wp2;go_roundw
  case rel=>exact⟨f+1,_,by omega,by simp,C2.out,C8,D4⟩
  case measure=>simp[intOf];omega
 obtain rfl:n=f:=by omega
 have D:=i4.out.I c;have W:=b4.out.lt p F5;have p6:p<N:=by omega
 obtain⟨xo,xn,xc,rfl,x2,x3,x4,-⟩:=id D.x;obtain rfl:R=xn:=by rw[<-x2,zU]
 obtain⟨bx,rfl,o9,r0,-⟩:=D.x.at_ W;obtain⟨nb,C0,x,rfl,A9,hx,q1,B8⟩:=zTs D.rows (show p<l.length by omega);obtain rfl:x=σ p:=by have:=m9.out p;rw[xgb,hx]at this;exact this
 obtain⟨D9,G5,G6,eb,E5,p1,a2⟩:=(h8.out.I c).row (zEL e0);cases eb;rw[zU]at p1 a2;obtain⟨D8,b3,o,l2,c',s',o',l',d6,rfl,E3,Q,H,e3,e4,a3⟩:=zB1 a2.prs p6;obtain⟨y1,y2,y3,y4,y5,y6,y7,y8,a8,P⟩:=hR.out;have I:=xgv P;obtain⟨r1,r2,r3,r4,r5,r6,r7,r8⟩:=a8.four;have m8:=xgv a3;obtain⟨A,hA⟩:∃A,E+n*(E+X+1)=A:=⟨_,rfl⟩;rw[hA]at d8;have H4:E<=500:=by
  have h1:5^4*e<=2500:=e8.out 4 oM;have h2:5^4*e=625*e:=rfl;have h3:5^k*e<=5^3*4:=qP (zX dE oM) oM;have h4:5^3*4=500:=rfl;omega
 have E2:A+E<=4*X+3005:=by
  have:n*(E+X+1)<=4*(E+X+1):=zK _ oM;omega
 have e6:=jK (T/B k p);have I2:bx<lo:=by have:=D5.out bx oM rfl;omega
 clear a2 a3 P hA;go_upto_region 31 with(fail)
 refine yD 15 [pcD 13 [] (fun w v=>zAx w v (T/B k p))] ?_;refine sRd ?_;refine sRc (fun K hI Gk a=>by go_simp;exact ck a (zFQ (a:=A) (b:=E) _ _ T (B k p) _ (I.out.I hI.bel) (m8.out.I hI.bel) d8.out (c8.out p p6) oM t7.out)) (fun C1 _=>?_);refine sRd ?_;refine sRe ?_;intro w6 d9 b0;obtain⟨s5,a5,l5,J,s6,a6,l6,k6,rfl,F,G⟩:=(show zAx _ _ _ from b0);have a9:=nx c d9;have d0:=i4.out.I a9;have x7:=h8.out.I a9;have l4:=r0.I d9;have r9:zV5 w6 bx:=l4.blk;have l3:=l4.set (k:=σ p) (p:=prQ (T/B k p)) (by rw[zU];exact W) F G;have F9:=a9.size;obtain⟨_,_,_,_,_,_,_,_,d1,d2,d3,d4,df,-⟩:=l4.cell (zBP W);have f1:=df (σ p*4);have f2:=df (σ p*4+1);have f3:=df (σ p*4+2);have f4:=df (σ p*4+3);have t0:=xgv ((show zCB _ bx (zAZ R fun t=>prQ (if t=σ p then T/B k p else xs t)) by
  have h9:=l3.1;rw[zHW]at h9;rw[zBL (g:=fun t=>if t=σ p then prQ (T/B k p)else prQ (xs t)) fun t _=>by by_cases e:t=σ p<;>simp[e]];exact h9).prsW o9 (by rw[zU]) x3 x4)
 have D3:=xgv (d0.store (bx:=bx) (ys:=fun t=>if t=σ p then T/B k p else xs t) (zA8 d0.bel o9 (σ p*4) _ _ _ _) (fun b cs t e U=>zMr (r9.ne e U)) l3.2 t0.out);have C5:=xgv (x7.old (fun g S=>zMr oM) (fun b cs e=>zMr (r9.ne e dE)) l3.2);have C7:qS (∀t,t<R->HQ (zUp (m-k)) (if t=σ p then T/B k p else xs t)):=⟨fun t U=>by
  rw[show m-k=(m-(k+1))+1 by omega];show HQ (4*zUp (m-(k+1))+3005) _;rw[hX];by_cases e:t=σ p
  .rw[zC e];exact(d8.out.div (c8.out p p6) t7.out).mono E2
  rw[zA e];exact(f6.out t U).mono oM⟩
 clear l3 d0 x7 l4 r9 t0 F G df b0 r1 r2 r3 r4 r5 r6 r7 r8 Q H e3 e4 p1 q1 a8;go_wp2;go_roundw
 case rel=>exact⟨k,_,by omega,by simp,C5,C7,D3,by simp;omega⟩
 case measure=>simp[intOf]
end Go.Proofs.YtniiekppgdkknaaGreat
