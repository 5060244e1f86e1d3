/- Joined. -/
import Derived.Test.YtniiekppgdkknaaGreatM27
set_option linter.unusedVariables false
set_option linter.unusedSimpArgs false
set_option linter.unusedSectionVars false
set_option maxHeartbeats 16000000
set_option maxRecDepth 100000
variable{C R base cap e g h i j k lo m n:Nat}{σ:Nat->Nat}{A M:Nat->Nat->Int}{ao:Option Go.Addr}{v:Go.Value}{w w':Go.World}
namespace Go.Proofs.YtniiekppgdkknaaGreat
open Go.RowKit
theorem HQ.dotR{q:Nat->Rat}{x:Nat->Int}(c:∀j,j<n->(x j).natAbs<2^h)(a:1<=h)(b:∀j,j<n->HQ e (q j)):HQ (n*(e+h+1)+1) (zAw n fun j=>q j*(x j:Rat)):=by
 rw[qD (g:=fun j=>(x j:Rat)*q j) fun j d=>Rat.mul_comm _ _];exact HQ.dot c a b
theorem zEC(n:Nat)(f:Nat->Int × Int):zAZ (n+1) f=zAZ n f++ [f n]:=by simp[zAZ,List.range_succ]
theorem zQW(yv mv:Value)(m C:Nat)(M:List (List Int))(q:Nat->Rat)(w:World)(hy:zDE w yv (zAZ m fun t=>prQ (q t)))(hm:zAo w mv m C M)(hF:zBe m C M)(hM:∀a,a<m->∀b,b<C->(ent M a b).natAbs<2^h)(hh:1<=h)(hq:∀j,j<m->HQ e (q j))(g5:m<=1000)(hC:C<=1000)(he:e+h+1<=900):
  Calls Tryz.prog 90 #[yv,mv] w fun e w'=>∃u,e= .returned u/\zDE w' u (zAZ C fun i=>prQ (zAw m fun t=>q t*(ent M t i:Rat)))/\Below w.heap.size w w':=by
 obtain⟨Av,rfl,b5⟩:=id hm;obtain⟨ao,mn,c8,rfl,T,e3,e4,-⟩:=id b5;obtain rfl:m=mn:=by rw[<-T,hF.1]
 obtain⟨yo,yn,yc,rfl,g2,g3,g4,-⟩:=id hy;obtain rfl:m=yn:=by rw[<-g2,zU]
 have HR:=xgv b5;have HF:=xgv hF;have HY:=xgv hy;have b7:=xgv hM;have b9:=xgv hq;have HE:qS (∀n,n<=m->n*(e+h+1)+1<=900001):=⟨fun n hn=>by
  have:n*(e+h+1)<=1000*900:=qP oM he;omega⟩
 clear hm b5 hF hy hM hq T g2;go_enter Tryz.func90,Tryz.ntmps90;go_upto_region 1 with(fail)
 refine zE ?_;intro F d3;obtain⟨c9,d,f0⟩:=qL d3;clear d3;go_upto_region 2 with(fail)
 refine zE ?_;intro W1 a3;have r:Below F.heap.size F W1:=by rw[a3.out];exact(zB _ _).alloc (xgf _) _
 have f:zBa W1 F.heap.size (.slice (some ⟨F.heap.size,0,none⟩) 0 0) []:=by rw[a3.out];exact zBa.made F (xgf _)
 have d:=d.I r;have q0:=c9.size;have c:=nx c9 r;obtain⟨base,d4⟩:∃g,F.heap.size=g:=⟨_,rfl⟩;rw[d4]at f f0 ⊢
 have b0:base<=W1.heap.size:=by have:=r.size;omega
 clear a3 r q0 d4;go_wp2;go_loopw [5,6] (fun u iv wr=>∃i:Nat,i<=C/\iv= .int .i64 i/\zBa wr base u (zAZ i fun i=>prQ (zAw m fun t=>q t*(ent M t i:Rat)))/\Below w.heap.size w wr/\Blk wr w.heap.size 29 #[.int .i64 m,.int .i64 C,.slice ao m c8]/\base<=wr.heap.size) (fun _ iv _=>C-(intOf iv).toNat)
 case atStart=>exact⟨0,by omega,rfl,f,c,d,b0⟩
 clear c d f b0;obtain⟨i,hi,rfl,f,c,d,b0⟩:=hrel;obtain⟨c1,D,S,E,c5,c6⟩:=d.three;by_cases V:i<C
 .go_wp2_with fail
  refine(zCm 0 wr dE dE).mono ?_;rintro e1 y ⟨rv,rfl,⟨s5,Q,Z,X,s6,R,l6,Y,rfl,A,B⟩,r⟩;have d:=d.I r;have c:=nx c r;have f:=f.I r;have I:zAx y (.agg #[.bool s5,.slice Q Z X,.bool s6,.slice R l6 Y]) 0:=⟨_,_,_,_,_,_,_,_,rfl,A,B⟩;have p:=xgv I;clear A B I c1 D S E c5 c6;go_upto_region 6 with(fail)
  refine zE ?_;intro W2 a4;have a9:Below y.heap.size y W2:=by rw[a4.out];exact(zB _ _).alloc (xgf _) _
  have l:Blk W2 y.heap.size tQ #[.bool s5,.slice Q Z X,.bool s6,.slice R l6 Y]:=by rw[a4.out];exact yJ _ _ _
  have p:=xgv (p.out.I a9);have g1:w.heap.size<y.heap.size:=by have:=c.size;have:=d.lt;omega
  have f4:base<=y.heap.size:=by have:=r.size;omega
  have HO:=xgv f;have HB:=xgv c;have HT:=xgv d;clear a4 f c d;go_wp2;go_loopw [8] (fun jv wr=>∃j:Nat,j<=m/\jv= .int .i64 j/\Below y.heap.size y wr/\∃(L O:Bool) (N P:Option Addr) (J D K E:Nat),Blk wr y.heap.size tQ #[.bool L,.slice N J D,.bool O,.slice P K E]/\qS (zAx wr (.agg #[.bool L,.slice N J D,.bool O,.slice P K E]) (zAw j fun t=>q t*(ent M t i:Rat)))) (fun jv _=>m-(intOf jv).toNat)
  case atStart=>exact⟨0,by omega,rfl,a9,_,_,_,_,_,_,_,_,l,p⟩
  clear a9 l p;obtain⟨j,hj,rfl,z,L,O,N,P,J,D,K,E,l,p⟩:=hrel;have d:=HT.out.I z;obtain⟨c1,x2,S,x4,x5,x6⟩:=d.three;have g9:=l.lt;by_cases U:j<m
  .have c:=nx HB.out z
   obtain⟨f1,h1,h0,g8,f2,s',o',l',c',rfl,f6,e1,T,e3,e4,d6⟩:=zB1 (HY.out.I c) U;obtain⟨bm,ra,rn,rc,zs,rfl,f3,hz,p1,b4⟩:=(HR.out.I c).row (k:=j) (by rw[HF.out.1];exact U);obtain rfl:=HF.out.row_eq hz;obtain⟨bv,h5,s1,o1,n1,k1,rfl,f5,W,d1,d2,hv⟩:=b4.cell (k:=i) (by rw[zO];exact V);have b3:=b4.len;rw[qU V]at W;injection W with W
   subst W;rw[zO]at b3;have e9:=b3.1;subst e9;have c7:=xgv hv;have b8:=xgv d6;have a1:=xgv (b7.out j U i V);have a0:=xgv (b9.out j U);have c0:=xgv (HQ.dotR (n:=j) (x:=fun t=>ent M t i) (fun t ht=>b7.out t oM i V) hh (fun t ht=>b9.out t oM));have d9:=xgv (HE.out j oM);obtain⟨SS,a2⟩:∃SS,(zAw j fun t=>q t*(ent M t i:Rat))=SS:=⟨_,rfl⟩;rw[a2]at p c0;obtain⟨o,b6⟩:∃o,ent M j i=o:=⟨_,rfl⟩;obtain⟨s,b2⟩:∃s,q j=s:=⟨_,rfl⟩;have d8:qS ((zAw (j+1) fun t=>q t*(ent M t i:Rat))=SS+s*(o:Rat)):=⟨by rw[<-a2,<-b6,<-b2];rfl⟩;rw[b6]at c7 a1;rw[b2]at b8 a0;obtain⟨r1,r2,r3,r4,r5,r6,r7,r8⟩:=l.four;have f7:=jK (o:Rat);have f8:=jK (s*(o:Rat));have f9:=jK (SS+s*(o:Rat));clear hv d6 a2 b6 b2 hz b4 b3;go_upto_region 9 with(fail)
   refine yD 16 [pcD 13 [] (fun w v=>zAx w v (o:Rat)),pcD 14 [13] (fun w v=>zAx w v (s*(o:Rat))),pcD 15 [14] (fun w v=>zAx w v (SS+s*(o:Rat)))] ?_;refine sRd ?_;refine sRc (fun wS hI Gk G=>by go_simp;exact ck G (zDB _ o _ (c7.out.ext (lx hI.bel)))) (fun h2 _=>?_);refine sRc (fun wS hI a7 Gk G=>by go_simp;exact ck G (zE9 (a:=e) (b:=h) _ _ s _ _ (b8.out.I hI.bel) a7 a0.out (HQ.int a1.out hh) oM)) (fun h3 _=>?_);refine sRc (fun wS hI a8 Gk G=>by go_simp;exact ck G (zIL _ _ SS _ _ (p.out.I hI.bel) a8 c0.out (HQ.mul a0.out (HQ.int a1.out hh)) (by have:=d9.out;omega))) (fun h4 _=>?_);refine sRe ?_;intro w2 d5 a7 a8 e5;obtain⟨s5,Q,Z,X,s6,R,l6,Y,rfl,A,B⟩:=(show zAx _ _ _ from e5);have I:zAx w2 (.agg #[.bool s5,.slice Q Z X,.bool s6,.slice R l6 Y]) (SS+s*(o:Rat)):=⟨_,_,_,_,_,_,_,_,rfl,A,B⟩;have d7:=xgv I;have l:=l.I d5;have z:=nx z d5;clear A B I r1 r2 r3 r4 r5 r6 r7 r8 d1 d2 e1 T e3 e4 a7 a8 c1 x2 S x4 x5 x6 p1 c;obtain⟨r1,r2,r3,r4,r5,r6,r7,r8⟩:=l.four;go_wp2;go_roundw
   case rel=>exact⟨j+1,by omega,by simp,zA8 z (xgf _) 0 _ _ _ _,_,_,_,_,_,_,_,_,l.put4 _ _ _ _,⟨by rw[d8.out];exact d7.out.ext (l.lext4 dE 0 _ _ _ _)⟩⟩
   case measure=>simp[intOf];omega
  obtain rfl:j=m:=by omega
  have f:=HO.out.I z;have c:=nx HB.out z;have e6:(zAZ i fun i=>prQ (zAw j fun t=>q t*(ent M t i:Rat))).length=i:=zU _ _;have g6:=z.size;have p:=xgv (p.out.I ((zB _ _).alloc (xgf _) (.cells #[.bool L,.slice N J D,.bool O,.slice P K E] tQ)));obtain⟨r1,r2,r3,r4,r5,r6,r7,r8⟩:=l.four;obtain⟨z1,z2,z3,z4,z5,z6,z7,z8,zz,A,B⟩:=p.out;simp only[Value.agg.injEq,Array.mk.injEq,List.cons.injEq,Value.bool.injEq,Value.slice.injEq,and_true]at zz;obtain⟨rfl,⟨rfl,rfl,rfl⟩,rfl,⟨rfl,rfl,rfl⟩⟩:=zz;have I5:=xgv A;have I6:=xgv B;clear A B x2 S;go_wp2_with (at_builtin;go_loud (refine zTo rfl _ _ rfl base u5 (zAZ i fun i=>prQ (zAw j fun t=>q t*(ent M t i:Rat))) rfl (f.I ((zB _ _).alloc (xgf _) _)) wr.heap.size 1 _ _ _ _ _ _ _ _ (prQ (zAw j fun t=>q t*(ent M t i:Rat))) rfl (yJ _ _ _) I5.out I6.out (by rw[e6];omega) (by simp;omega) ?_;intro v' w' e8 H g7))
  have H:World.grownBy (wr.alloc (.cells #[.bool L,.slice N J D,.bool O,.slice P K E] tQ)) w' u5.ownBlock:=H;have d0:Blk wr w.heap.size 29 #[.int .i64 j,.int .i64 C,.slice ao j c8]:=d;have e0:Below w.heap.size w w':=(c.alloc c.size _).grown H (by have:=c.size;simp;omega) (fun g hg=>by have:=f.own g hg;omega);have e7:=H.size;simp at e7;go_roundw
  case rel=>exact⟨i+1,by omega,by simp,by rw[zEC];exact e8,e0,(H.block _ (by have:=d0.lt;simp;omega) (fun e=>by have:=f.own _ e.symm;omega)).trans (d0.alloc _),by omega⟩
  case measure=>simp[intOf];omega
 obtain rfl:i=C:=by omega
 go_wp2;go_ret;exact⟨_,rfl,f.prs,c⟩
theorem zFA(v:Value)(R C:Nat)(M:List (List Int))(w:World)(h:zAo w v R C M)(hF:zBe R C M)(d:R<=1000000)(c:C<=1000000):
  Calls Tryz.prog 25 #[v] w fun e w'=>∃v,e= .returned v/\zAo w' v C R (yV C R (fun a b=>ent M b a))/\Below w.heap.size w w':=
 (zIO v R C M w h hF d c).mono fun e w' ⟨v,i,h,g,f⟩=>⟨v,h,g.mat.1,f⟩
theorem zOR(x y:Value)(R C:Nat)(M:List (List Int))(q:Nat->Rat)(w:World)(f:zAo w x R C M)(k:zDE w y (zAZ C fun t=>prQ (q t)))(hF:zBe R C M)(m:∀a,a<R->∀b,b<C->(ent M a b).natAbs<2^h)(Q:1<=h)(s:∀j,j<C->HQ e (q j))(N:R<=1000)(L:C<=1000)(P:e+h+1<=900):
  Calls Tryz.prog 50 #[x,y] w fun e w'=>∃u,e= .returned u/\zDE w' u (zAZ R fun i=>prQ (zD6 C (ent M i) q))/\Below w.heap.size w w':=by
 have B:=xgv f;obtain⟨V,rfl,v⟩:=id f;obtain⟨ao,mn,W,rfl,l,e3,e4,-⟩:=id v;have A:=xgv hF;have H:=xgv k;have D:=xgv s;have F:qS (∀a,a<C->∀b,b<R->(ent (yV C R fun a b=>ent M b a) a b).natAbs<2^h):=⟨fun a o b p=>by rw[zA9 o p];exact m b p a o⟩;have z:qS ((zAZ R fun i=>prQ (zAw C fun t=>q t*(ent (yV C R fun a b=>ent M b a) t i:Rat)))=zAZ R fun i=>prQ (zD6 C (ent M i) q)):=⟨zBL fun i S=>by
  unfold zD6;rw[qD fun t c=>by rw[zA9 c S,Rat.mul_comm]]⟩
 obtain⟨yo,yn,yc,rfl,K,g3,g4,-⟩:=id k;clear v k hF f m s l K;go_enter Tryz.func50,Tryz.ntmps50;go_upto_region 1 with(fail)
 refine zE ?_;intro J n;obtain⟨d,I,a0⟩:=qL n;obtain⟨X,Y,Z,c4,c5,c6⟩:=I.three;clear n;go_wp2_with fail
 refine(zFA _ R C M J (B.out.I d) A.out oM oM).mono ?_;rintro e1 U ⟨T,rfl,c,r⟩;have E:=xgv c;clear c;go_wp2_with fail
 refine(zQW (e:=e) (h:=h) _ T C R (yV C R fun a b=>ent M b a) q U (H.out.I (nx d r)) E.out (zB7 _ _ _) F.out Q D.out L N P).mono ?_;rintro l w2 ⟨u,rfl,g,O⟩;rw[z.out]at g;have G:=xgv g;clear g;go_wp2;go_ret;exact⟨_,rfl,G.out,nx (nx d r) O⟩
def zJZ(R C:Nat)(A:Nat->Nat->Int)(y:Nat->Int)(xs:List Int)(k:Nat):Bool:=decide (xs.length=R) && decide (k=0) && decide (qQ C (fun j=>yZ R fun i=>xs.getD i 0*A i j)=qQ C y)
def rqL(ps:List (Int × Int))(t:Nat):Rat:=Rat.divInt (ps.getD t (0,1)).1 (ps.getD t (0,1)).2
def zJa(R C:Nat)(A:Nat->Nat->Int)(y:Nat->Int)(k:Nat)(ps:List (Int × Int)):Bool:=decide (k=0) && (decide (ps.length=C) && zGH ps) && ((List.range R).all fun i=>isZ (zD6 C (A i) (rqL ps))) && !isZ (zD6 C y (rqL ps))
theorem zKk(xs:List Int):qQ xs.length (fun i=>xs.getD i 0)=xs:=by
 refine qI (by simp[qQ]) fun j b a=>?_
 simp[qQ,xgb,a]
theorem zNG{a:List (Int × Int)}(h:zGH a=true):a=zAZ a.length fun t=>prQ (rqL a t):=by
 refine qI (by simp[zAZ]) fun j e f=>?_
 have b:=zW.1 h a[j] (jE _);unfold zKI at b;rw[decide_eq_true_eq]at b;obtain⟨c,d⟩:=zSB b.1 b.2;simp only[zAZ,List.getElem_map,List.getElem_range,prQ,rqL,xgb,xga e,Option.getD_some,c,d]
theorem zTV{a:List (Int × Int)}(h:zGH a=true)(g:∀p∈a,p.1.natAbs<2^e/\p.2.natAbs<2^e){t:Nat}(f:t<a.length):HQ e (rqL a t):=by
 have d:=jE f;have b:=zW.1 h _ d;unfold zKI at b;rw[decide_eq_true_eq]at b;have c:=g _ d;unfold rqL;rw[xgb,xga f];exact .divInt c.1 c.2 (by have:=b.1;simp only[Option.getD_some];omega)
theorem zNY(v:Value)(R C:Nat)(M:List (List Int))(w:World)(h:zAo w v R C M)(hF:zBe R C M):Calls Tryz.prog 46 #[v] w fun e w'=>e= .returned (.bool true)/\Below w.heap.size w w':=
 (zMc v R C M w h).mono fun e w' h=>⟨by rw[h.1,zT hF.valid],h.2⟩
theorem zIj(mv K xv yv:Value)(R C:Nat)(M:List (List Int))(y:Nat->Int)(xs:List Int)(D:List (Int × Int))(w:World)(x:zAo w mv R C M)(hF:zBe R C M)(r:zAR w K (qQ C y))(B:zAR w xv xs)(z:zDE w yv D)(hR:R<=1000)(hC:C<=1000)(W:zGg [qQ R fun i=>xs.getD i 0] M 1 R C):
  Calls Tryz.prog 21 #[mv,K,.agg #[.bool true,xv,yv]] w fun e w'=>∃u,e= .returned u/\u= .bool (zJZ R C (ent M) y xs D.length)/\Below w.heap.size w w':=by
 have G:=xgv x;obtain⟨Av,rfl,Y⟩:=id x;obtain⟨ao,mn,a4,rfl,p,e3,e4,-⟩:=id Y;obtain rfl:R=mn:=by rw[<-p,hF.1]
 have F:=xgv hF;have HB:=xgv r;have H:=xgv B;have HP:=xgv z;have HS:=xgv W;obtain⟨bo,bn,bc,rfl,T,f3,f4,-⟩:=id r;obtain rfl:C=bn:=by rw[<-T,zO]
 obtain⟨xo,d,xc,rfl,U,g3,g4,-⟩:=id B;obtain⟨yo,E,yc,rfl,k2,k3,k4,-⟩:=id z;have f:=xgv U;have a0:qS (xs.length=R->qQ C (zGK [qQ R fun i=>xs.getD i 0] M R 0)=qQ C (fun j=>yZ R fun i=>xs.getD i 0*ent M i j)):=⟨fun hl=>qZ fun j hj=>by
  unfold zGK;rw[zG3];exact yF fun i hi=>by rw[zDL rfl (qU hi)]⟩
 obtain⟨J,q⟩:∃J,zJZ R C (ent M) y xs D.length=J:=⟨_,rfl⟩;rw[q];have o:=xgv q;have I:=xgv k2;clear Y hF x r B z W p T U k2 q;go_enter Tryz.func21,Tryz.ntmps21;go_upto_region 1 with(fail)
 refine zE ?_;intro W0 X;obtain⟨V,b,c,a5⟩:=jW X;obtain⟨g,h,k,l,m,n⟩:=b.three;clear X;go_wp2_with fail
 refine(zNY _ R C M W0 (G.out.I V) F.out).mono ?_;rintro e1 w1 ⟨rfl,s⟩;have b:=b.I s;have c:=c.I s;have a:=nx V s;clear g h k l m n;go_wp2_with fail
 refine(zDx _ _ w1 (HB.out.I a)).mono ?_;rintro p w2 ⟨rfl,t⟩;have b:=b.I t;have c:=c.I t;have a:=nx a t;obtain⟨g,h,k,l,m,n⟩:=b.three;obtain⟨L,N,O,P,Q,S⟩:=c.three;by_cases a6:(d:Int)=(R:Int)
 .obtain rfl:d=R:=by omega
  go_wp2_with fail
  refine(zDx _ _ w2 (H.out.I a)).mono ?_;rintro e3 w3 ⟨rfl,v⟩;have b:=b.I v;have c:=c.I v;have a:=nx a v;clear g h k l m n L N O P Q S;obtain⟨g,h,k,l,m,n⟩:=b.three;obtain⟨L,N,O,P,Q,S⟩:=c.three;by_cases a7:(E:Int)=0
  .obtain rfl:E=0:=by omega
   have Z:zAR w3 (.slice xo d xc) (qQ d fun i=>xs.getD i 0):=by
    have:=zKk xs;rw[f.out]at this;rw[this];exact H.out.I a
   have a1:=xgv Z;clear Z;go_wp2_with fail
   refine(zTk _ _ d C M _ w3 a1.out (G.out.I a) F.out oM oM HS.out).mono ?_;rintro e4 w4 ⟨u,rfl,A,a2⟩;rw[a0.out f.out]at A;have a:=nx a a2;have HU:=xgv A;clear A;go_wp2_with fail
   refine(zIU _ _ _ _ w4 HU.out (HB.out.I a)).mono ?_;rintro e5 w5 ⟨rfl,a3⟩;go_wp2;go_ret;refine⟨_,rfl,?_,nx a a3⟩;rw[<-o.out];unfold zJZ;rw[f.out,I.out];simp
  go_wp2;go_ret;refine⟨_,rfl,?_,a⟩;rw[<-o.out];unfold zJZ;rw[f.out,I.out,zR (show ¬ E=0 by omega)];simp
 go_wp2;go_ret;refine⟨_,rfl,?_,a⟩;rw[<-o.out];unfold zJZ;rw[f.out,zR (show ¬ d=R by omega)];simp
theorem zK0{e h:Nat}(mv bv xv yv:Value)(R C:Nat)(M:List (List Int))(y:Nat->Int)(xs:List Int)(f:List (Int × Int))(w:World)(hm:zAo w mv R C M)(hF:zBe R C M)(o:zAR w bv (qQ C y))(hx:zAR w xv xs)(hp:zDE w yv f)(hR:R<=1000)(hC:C<=1000)
  (b5:∀p∈f,p.1.natAbs<2^e/\p.2.natAbs<2^e) (hM:∀a,a<R->∀b,b<C->(ent M a b).natAbs<2^h) (hy:∀j,j<C->(y j).natAbs<2^h) (O:1<=h) (he:e+h+1<=900):
  Calls Tryz.prog 21 #[mv,bv,.agg #[.bool false,xv,yv]] w fun e w'=>∃u,e= .returned u/\u= .bool (zJa R C (ent M) y xs.length f)/\Below w.heap.size w w':=by
 have HM:=xgv hm;obtain⟨Av,rfl,c0⟩:=id hm;obtain⟨ao,mn,e0,rfl,L,e3,e4,-⟩:=id c0;obtain rfl:R=mn:=by rw[<-L,hF.1]
 have HF:=xgv hF;have HB:=xgv o;have HX:=xgv hx;have HP:=xgv hp;have a7:=xgv b5;have a6:=xgv hM;have b0:=xgv hy;obtain⟨bo,bn,bc,rfl,f2,f3,f4,-⟩:=id o;obtain rfl:C=bn:=by rw[<-f2,zO]
 obtain⟨xo,xn,xc,rfl,g2,g3,g4,-⟩:=id hx;obtain⟨yo,d,yc,rfl,k2,k3,k4,-⟩:=id hp;have a9:=xgv g2;have a5:qS (C*(e+h+1)+1<=1000000):=⟨by
  have:C*(e+h+1)<=1000*900:=qP oM he;omega⟩
 obtain⟨V,W⟩:∃V,zJa R C (ent M) y xs.length f=V:=⟨_,rfl⟩;rw[W];have Q:=xgv W;have d0:=xgv k2;clear c0 hF hm o hx hp L f2 g2 k2 W b5 hM hy;go_enter Tryz.func21,Tryz.ntmps21;go_upto_region 1 with(fail)
 refine zE ?_;intro W0 b3;obtain⟨b2,m,l,f0⟩:=jW b3;obtain⟨v,z,A,B,D,E⟩:=m.three;clear b3;go_wp2_with fail
 refine(zNY _ R C M W0 (HM.out.I b2) HF.out).mono ?_;rintro e1 w1 ⟨rfl,X⟩;have m:=m.I X;have l:=l.I X;have c:=nx b2 X;clear v z A B D E;go_wp2_with fail
 refine(zDx _ _ w1 (HB.out.I c)).mono ?_;rintro L w2 ⟨rfl,Y⟩;have m:=m.I Y;have l:=l.I Y;have c:=nx c Y;obtain⟨v,z,A,B,D,E⟩:=m.three;obtain⟨F,G,H,I,J,K⟩:=l.three;by_cases f1:(xn:Int)=0
 .obtain rfl:xn=0:=by omega
  have a4:=zQ9 (.slice yo d yc) f C w2 (HP.out.I c) a7.out oM;obtain⟨vb,a3⟩:∃vb,(decide ((f.length:Int)=(C:Int)) && zGH f)=vb:=⟨_,rfl⟩;rw[a3]at a4;have U:=xgv a3;have a8:=xgv a4;clear a3 a4;go_wp2_with fail
  refine a8.out.mono ?_;rintro e3 w3 ⟨_,rfl,rfl,Z⟩;have m:=m.I Z;have l:=l.I Z;have c:=nx c Z;clear v z A B D E F G H I J K a8;obtain⟨v,z,A,B,D,E⟩:=m.three;obtain⟨F,G,H,I,J,K⟩:=l.three;cases vb
  .go_wp2
   go_ret;refine⟨_,rfl,?_,c⟩;rw[<-Q.out];have h1:=U.out;rw[show decide ((f.length:Int)=(C:Int))=decide (f.length=C) from decide_eq_decide.2 ⟨fun g=>by omega,fun g=>by omega⟩]at h1;unfold zJa;rw[h1];simp
  have r:=U.out;rw[zAf,decide_eq_true_eq]at r;have P:f.length=C:=by omega
  have d8:d=C:=by rw[<-d0.out,P]
  subst d8;have a2:=zNG r.2;rw[P]at a2;have hq:∀j,j<d->HQ e (rqL f j):=fun j hj=>zTV r.2 a7.out oM
  have c7:=xgv r.2;have b6:zDE w3 (.slice yo d yc) (zAZ d fun d9=>prQ (rqL f d9)):=by rw[<-a2];exact HP.out.I c
  have s:=xgv b6;have t:=xgv hq;have S:qS ((((List.range R).all fun i=>isZ (zD6 d (ent M i) (rqL f))) && !isZ (zD6 d y (rqL f)))=V):=⟨by
   rw[<-Q.out];unfold zJa;rw[a9.out,P,r.2];simp⟩
  obtain⟨q,b7⟩:∃q,rqL f=q:=⟨_,rfl⟩;rw[b7]at s t S;clear r a2 hq b6 b7 U c7 P;go_wp2_with fail
  refine(zOR (e:=e) (h:=h) _ _ R d M q w3 (HM.out.I c) s.out HF.out a6.out O t.out hR hC he).mono ?_;rintro e4 w4 ⟨u,rfl,hu,a0⟩;obtain⟨co,cn,cc,rfl,l2,l3,l4,-⟩:=id hu;obtain rfl:R=cn:=by rw[<-l2,zU]
  have l:=l.I a0;have c:=nx c a0;have HU:=xgv hu;have s:=xgv (s.out.I a0);clear hu l2 v z A B D E F G H I J K m;go_wp2;go_loopw [8] (fun iv wr=>∃i:Nat,i<=R/\iv= .int .i64 i/\Below w4.heap.size w4 wr/\qS (∀k,k<i->isZ (zD6 d (ent M k) q)=true)) (fun iv _=>R-(intOf iv).toNat)
  case atStart=>exact⟨0,by omega,rfl,zB _ _,⟨fun k hk=>by omega⟩⟩
  obtain⟨i,hi,rfl,o,b4⟩:=hrel;by_cases a1:i<R
  .obtain⟨e7,f7,f6,f5,e8,s',o',l',c',rfl,e9,e1,L,e3,e4,b8⟩:=zB1 (HU.out.I o) a1
   have c8:=xgv b8;have T:=xgv (HQ.dot (n:=d) (x:=ent M i) (fun j hj=>a6.out i a1 j hj) O t.out);clear b8;go_wp2_with fail
   refine(zFl _ (zD6 d (ent M i) q) wr c8.out T.out a5.out).mono ?_;rintro e5 w5 ⟨_,rfl,rfl,N⟩;cases hz:isZ (zD6 d (ent M i) q)
   .go_wp2
    go_ret;refine⟨_,rfl,?_,nx c (nx o N)⟩;rw[<-S.out];have:((List.range R).all fun i=>isZ (zD6 d (ent M i) q))=false:=List.all_eq_false.2 ⟨i,yR.2 a1,by rw[hz];decide⟩;rw[this];rfl
   go_wp2;go_roundw
   case rel=>exact⟨i+1,by omega,by simp,nx o N,⟨fun k hk=>by
    rcases zJ k i with g|g
    exact b4.out k g;obtain rfl:k=i:=by omega
    exact hz⟩⟩
   case measure=>simp[intOf];omega
  obtain rfl:i=R:=by omega
  have l:=l.I o;have c:=nx c o;obtain⟨F,G,H,I,J,K⟩:=l.three;have T:=xgv (HQ.dot (n:=d) (x:=y) b0.out O t.out);go_wp2_with fail
  refine(zQY (e:=e) (h:=h) _ _ d y q wr (HB.out.I c) (s.out.I o) b0.out O t.out hC he).mono ?_;rintro e5 w5 ⟨rv,rfl,b9,N⟩;have c9:=xgv b9;clear b9;go_wp2_with fail
  refine(zFl _ (zD6 d y q) w5 c9.out T.out a5.out).mono ?_;rintro e6 w6 ⟨_,rfl,rfl,d7⟩;go_wp2;go_ret;refine⟨_,rfl,?_,nx (nx c N) d7⟩;rw[<-S.out];have:((List.range i).all fun i=>isZ (zD6 d (ent M i) q))=true:=zW.2 fun k hk=>b4.out k (yR.1 hk)
  rw[this];rfl
 go_wp2;go_ret;refine⟨_,rfl,?_,c⟩;rw[<-Q.out];unfold zJa;rw[a9.out,zR (show ¬ xn=0 by omega)];simp
theorem zRl(v:Value)(n:Nat)(Y:Nat->Rat)(w:World)(h:zDE w v (zAZ n fun t=>prQ (Y t)))(hn:n<=1000000)(he:e+10<=1000000)(hY:∀t,t<n->HQ e (Y t)):
  Calls Tryz.prog 78 #[v] w fun e w'=>∃v,e= .returned v/\zDE w' v (zAZ n fun t=>prQ (Y t/2))/\Below w.heap.size w w':=by
 obtain⟨ao,m,cap,rfl,o,h3,h4,-⟩:=id h;rw[zU]at o;subst o;have a7:=xgv h;have a8:qS (∀(A B:Value) (t:Nat) (w:World),t<n->zAx w A (Y t)->zAx w B 2->Calls Tryz.prog 121 #[A,B] w fun e w'=>∃v,e= .returned v/\QOf (Y t/2) w' v/\Below w.heap.size w w'):=⟨fun A B t w ht u x=>by
  refine(zSa (a:=e) (b:=2) A B (Y t) 2 w u x (hY t ht) ⟨by decide,by decide⟩ oM dE).mono ?_;rintro e' w' ⟨v,rfl,O,o⟩;exact⟨_,rfl,⟨v,rfl,O⟩,o⟩⟩
 obtain⟨F,hF⟩:∃F:Nat->Int × Int,(fun t=>prQ (Y t/2))=F:=⟨_,rfl⟩;have a9:qS (∀k,F k=prQ (Y k/2)):=⟨fun k=>by rw[<-hF]⟩;rw[hF];have e8:=fun b2=>mkQ (n:Int) n rfl oM b2
 clear h hY hF he;go_enter Tryz.func78,Tryz.ntmps78;go_upto_region 2 with(fail)
 refine zE ?_;intro W1 R;have l:Below w.heap.size w W1:=by rw[R.out];exact(zB _ _).alloc (xgf _) _
 have c:zCB W1 w.heap.size (zAZ n (zF8 F (fun _=>(0,0)) 0)):=by
  rw[R.out,show zAZ n (zF8 F (fun _=>(0,0)) 0)=zAZ n fun _=>(0,0) from zBL fun k _=>by unfold zF8;rw[zA oM]];exact zNU w n
 clear R;obtain⟨g,S⟩:∃g,w.heap.size=g:=⟨_,rfl⟩;have b0:=xgv S;go_wp2;rw[S]at c ⊢
 clear S;go_loopw [11] (fun X wr=>∃i:Nat,i<=n/\X= .int .i64 i/\Below w.heap.size w wr/\zCB wr g (zAZ n (zF8 F (fun _=>(0,0)) i))) (fun X _=>n-(intOf X).toNat)
 case atStart=>exact⟨0,by omega,rfl,l,c⟩
 clear l c;obtain⟨i,hi,rfl,l,c⟩:=hrel;by_cases r:i<n
 .obtain⟨e2,f2,s1,M,Z,u,s2,N,l2,x,rfl,e7,C,E,G,H,I,i1,i2⟩:=(a7.out.I l).cell (k:=i) (by rw[zU];exact r)
  rw[zBP r]at C;injection C with C
  subst C;have J:qS (zAx wr (.agg #[.bool s1,.slice M Z u,.bool s2,.slice N l2 x]) (Y i)):=⟨⟨_,_,_,_,_,_,_,_,rfl,i1,i2⟩⟩;clear i1 i2;go_upto_region 5 with(fail)
  refine zE ?_;intro W2 a0;obtain⟨P,T5,e9⟩:=qL a0;have c:=c.I P;have l:=nx l P;obtain⟨c1,c2,c3,c4,c5,c6,c7,c8⟩:=T5.four;have J:=xgv (J.out.I P);have b4:=jK 2;have b5:zAA (QOf (Y i/2)):=fun _ _ _ d8 ⟨v,O,o⟩=>⟨v,O,o.I d8⟩
  have b6:=jK (Y i/2);have f0:=T5.lt;have f1:=c.lt;clear a0 E G H I;refine zBJ rfl (RAS ([]) 99 W2 _ [⟨0,17,fun _ v=>v= .slice (some ⟨g,0,none⟩) n n⟩,⟨1,18,fun _ v=>v= .int .i64 i⟩,⟨2,19,fun _ v=>v= .agg #[.bool s1,.slice M Z u,.bool s2,.slice N l2 x]⟩,⟨3,20,fun w v=>yA w v (2)⟩,⟨4,21,fun w v=>zAx w v 2⟩,⟨5,22,QOf (Y i/2)⟩,⟨6,16,QOf (Y i/2)⟩,⟨7,23,fun w v=>zAx w v (Y i/2)⟩,⟨8,24,fun _ v=>v= .int .i64 0⟩,⟨9,25,fun _ v=>v= .pointer (some ⟨g,i*4,none⟩)⟩] 10 (zUg 25 23)) kR (zBt (zCK kR (by repeat' (first|exact zBU _|exact zBs _|exact zAl _ _ _|exact zAX _|assumption|refine xgm.2 ⟨?_,?_⟩|exact xgn _)))) ?fin1 ?steps1
  case steps1=>
   refine⟨?_,?_,?_,?_,?_,?_,?_,?_,?_,?_,?_,trivial⟩
   .refine zV.liftA kR dE ?_
    intro L T f b hd d hI K hK;try refine zD rfl ?_
    have zt:T[3]?=some (.slice (some ⟨g,0,none⟩) n n):=hI.keep 3 sI;go_simp;exact hK _ _ (hI.y mm0 rfl)
   .refine zV.liftA kR dE ?_
    intro L T f b hd d hI K hK;try refine zD rfl ?_
    have zt:T[4]?=some (.int .i64 i):=hI.keep 4 sI;go_simp;exact hK _ _ (hI.y mm1 rfl)
   .refine zV.liftA kR dE ?_
    intro L T f b hd d hI K hK;try refine zD rfl ?_
    have zt:T[5]?=some (.pointer (some ⟨wr.heap.size,0,none⟩)):=hI.keep 5 sI;have e3:=hI.cell (sI) oM c1;have e4:=hI.cell (sI) oM c2;have e5:=hI.cell (sI) oM c3;have e6:=hI.cell (sI) oM c4;go_simp;exact hK _ _ (hI.y mm2 rfl)
   .refine zV.liftA kR dE ?_
    intro L T f b hd d hI K hK;try refine zD rfl ?_
    go_simp;refine(zDt 2 _ dE dE).mono ?_;rintro e wa ⟨v,rfl,s,q⟩;exact hK _ _ ((hI.world q).y mm3 s)
   .refine zV.liftA kR dE ?_
    intro L T f b hd d hI K hK;try refine zD rfl ?_
    obtain⟨v3,g4,h3⟩:=hI.v mm3 (hd 3);go_simp;refine(zG2 _ 2 _ h3 (Sm.mono (z:=2) (jX (e:=2) dE dE) dE)).mono ?_;rintro e wa ⟨v,rfl,s,q⟩;exact hK _ _ ((hI.world q).y mm4 s)
   .refine zV.liftA kR dE ?_
    intro L T f b hd d hI K hK;try refine zD rfl ?_
    obtain⟨_,g2,rfl⟩:=hI.v mm2 (hd 2);obtain⟨v4,g5,h4⟩:=hI.v mm4 (hd 4);go_simp;refine(a8.out _ _ i _ r (J.out.ext hI.onl.lext) h4).mono ?_;rintro e wa ⟨v,rfl,s,q⟩;exact hK _ _ ((hI.world q).y mm5 s)
   .refine zV.liftA kR dE ?_
    intro L T f b hd d hI K hK;try refine zD rfl ?_
    obtain⟨p,g6,h5⟩:=hI.v mm5 (hd 5);go_simp;exact hK _ _ (hI.y mm6 h5)
   .refine zV.liftA kR dE ?_
    intro L T f b hd d hI K hK;try refine zD rfl ?_
    obtain⟨v6,g7,h6⟩:=hI.v mm6 (hd 6);obtain⟨qq,rfl,hq⟩:=h6;go_simp;exact hK _ _ (hI.y mm7 hq)
   .intro L T f b hd d hI K hK
    try refine zD rfl ?_
    obtain⟨w0,Q,-,-⟩:=id hI;obtain⟨d9,g3,c0⟩:=Q.val _ mm6 (hd 6);obtain⟨qq,rfl,hq⟩:QOf (Y i/2) w0 d9:=c0;go_simp;exact hK _ _ (hI.pure ⟨8,24,_⟩ mm8 rfl (fun _=>rfl) dE (fun _=>zNV dE dE))
   .refine zV.liftA kR dE ?_
    intro L T f b hd d hI K hK;try refine zD rfl ?_
    obtain⟨_,f9,rfl⟩:=hI.v mm0 (hd 0);obtain⟨_,g1,rfl⟩:=hI.v mm1 (hd 1);go_simp;exact hK _ _ (hI.y mm9 rfl)
   intro L T f b hd d hI K hK;try refine zD rfl ?_
   replace hI:=hI.here b;obtain⟨_,e1,rfl⟩:=hI.v mm9 (hd 9);obtain⟨f8,e0,c9⟩:=hI.v mm7 (hd 7);obtain⟨t1,ta,tl,tc,t2,tb,tm,td,rfl,-,-⟩:=id c9;obtain⟨_,_,_,_,_,_,_,_,A,B,v3,v4,p,-⟩:=(c.only hI.onl sI).cell (zBP r);have v6:=p (i*4);have v7:=p (i*4+1);have v8:=p (i*4+2);have v9:=p (i*4+3);clear p;go_simp;exact hK _ _ (zBu hI b (by repeat' (first|exact xgn _|refine xgm.2 ⟨by dsimp only;decide,?_⟩)) dE (zJ9 e1 e0).symm)
  intro T d7 Q;obtain⟨w9,hI,-,D⟩:=Q;replace D:=D kR;obtain⟨f3,q0,rfl⟩:=hI.v mm0 rfl;obtain⟨f4,E,rfl⟩:=hI.v mm1 rfl;obtain⟨f5,G,rfl⟩:=hI.v mm2 rfl;obtain⟨a6,H,W⟩:=hI.v mm3 rfl;replace W:yA w9 a6 (2):=W;obtain⟨d3,I,d0⟩:=hI.v mm4 rfl;obtain⟨d4,q5,d1⟩:=hI.v mm5 rfl;obtain⟨d5,q6,d2⟩:=hI.v mm6 rfl;obtain⟨d6,q7,a5⟩:=hI.v mm7 rfl;obtain⟨f6,q8,rfl⟩:=hI.v mm8 rfl;obtain⟨f7,q9,rfl⟩:=hI.v mm9 rfl;have hT:=zCW [(17,.slice (some ⟨g,0,none⟩) n n),(18,.int .i64 i),(19,.agg #[.bool s1,.slice M Z u,.bool s2,.slice N l2 x]),(20,a6),(21,d3),(22,d4),(16,d5),(23,d6),(24,.int .i64 0),(25,.pointer (some ⟨g,i*4,none⟩))]
   (fun j hj=>hI.keep j (by simp only[xgm]at hj ⊢;simp[hj]))
   (by simp only[xgm];simp[q0,E,G,H,I,q5,q6,q7,q8,q9]) hI.size
  have a4:=hI.onl;clear hI;simp only[List.foldl_cons,List.foldl_nil,xgh,xgi,xgj,ptr]at hT;subst hT;clear q0 E G H I q5 q6 q7 q8 q9;have a3:=zHb a4;obtain⟨t1,ta,tl,tc,t2,tb,tm,td,rfl,i5,i6⟩:=id (show zAx _ _ _ from a5);have V:=D.trans (zJ9 rfl rfl);have b7:=c.I a3;have U:=b7.set (k:=i) (p:=prQ (Y i/2)) (by rw[zU];exact r) i5 i6;rw[<-a9.out,zLa,<-V]at U;have b3:Below w.heap.size w d7:=by rw[V];exact zA8 (nx l a3) (by rw[b0.out];exact xgf _) _ _ _ _ _
  have b9:=U.1;clear U V D W d0 d1 d2 a5 a4 i5 i6 b4 b5 b6 c1 c2 c3 c4 c5 c6 c7 c8;go_wp2;go_roundw
  case rel=>exact⟨i+1,by omega,by simp,b3,b9⟩
  case measure=>simp[intOf];omega
 obtain rfl:i=n:=by omega
 rw[show zAZ i (zF8 F (fun _=>(0,0)) i)=zAZ i F from zBL fun k hk=>by unfold zF8;rw[zC hk]]at c;have b8:=c.prs (zU _ _) (xgf i) (by omega:i<=9223372036854775807);go_wp2;go_ret;exact⟨_,rfl,b8,l⟩
theorem zPg(v:Value)(q:Rat)(w:World)(h:zAx w v q):Calls Tryz.prog 80 #[v] w fun e w'=>∃u,e= .returned u/\u= .bool (!isZ q)/\Below w.heap.size w w':=by
 obtain⟨G,n,E,C,I,o,F,D,rfl,l,m⟩:=id h;obtain⟨b,a⟩:∃b,isZ q=b:=⟨_,rfl⟩;have f:qS (∀(v:Value) (w:World),zAx w v q->Calls Tryz.prog 81 #[v] w fun e w'=>∃u,e= .returned u/\u= .bool b/\Below w.heap.size w w'):=⟨fun v w k=>a ▸ zEm v q w k⟩;have H:=xgv h;rw[a];clear h l m a;go_enter Tryz.func80,Tryz.ntmps80;go_upto_region 1 with(fail)
 refine zE ?_;intro i d;obtain⟨c,g,B⟩:=qL d;obtain⟨p,r,s,t,x,y,z,A⟩:=g.four;clear d;go_wp2_with fail
 refine(f.out _ i (H.out.I c)).mono ?_;rintro e J ⟨u,rfl,rfl,j⟩;go_wp2;go_ret;exact⟨_,rfl,rfl,nx c j⟩
theorem zRw(v:Value)(n:Nat)(X:Nat->Rat)(w:World)(h:zDE w v (zAZ n fun t=>prQ (X t)))(M:n<=1000000):
  Calls Tryz.prog 79 #[v,.func (.func 80) #[] #[]] w fun e w'=>∃k:Int,e= .returned (.int .i64 k)/\((k=-1/\∀i,i<n->isZ (X i)=true)∨∃i:Nat,i<n/\k=i/\isZ (X i)=false)/\Below w.heap.size w w':=by
 obtain⟨ao,m,cap,rfl,h2,I,J,-⟩:=id h;rw[zU]at h2;subst h2;have H:=xgv h;clear h;go_enter Tryz.func79,Tryz.ntmps79;go_wp2;go_loopw [8] (fun j wr=>∃i:Nat,i<=n/\j= .int .i64 i/\Below w.heap.size w wr/\qS (∀a,a<i->isZ (X a)=true)) (fun j _=>n-(intOf j).toNat)
 case atStart=>exact⟨0,by omega,rfl,zB _ _,⟨fun a h=>by omega⟩⟩
 obtain⟨i,L,rfl,c,o⟩:=hrel;by_cases g:i<n
 .obtain⟨b,p,F,y,D,B,G,z,E,C,rfl,K,f,N,O,P,Q,q,r⟩:=(H.out.I c).cell (k:=i) (by rw[zU];exact g)
  rw[zBP g]at f;injection f with f
  subst f;have x:qS (zAx wr (.agg #[.bool F,.slice y D B,.bool G,.slice z E C]) (X i)):=⟨⟨_,_,_,_,_,_,_,_,rfl,q,r⟩⟩;clear q r;go_wp2_with fail
  refine(zPg _ (X i) wr x.out).mono ?_;rintro e R ⟨u,rfl,rfl,l⟩;cases d:isZ (X i)with
  | true=>
   have A:qS (∀a,a<i+1->isZ (X a)=true):=⟨fun a h=>by
    rcases zJ a i with h2|h2
    exact o.out a h2;obtain rfl:a=i:=by omega
    exact d⟩
   clear d;go_wp2;go_roundw
   case rel=>exact⟨i+1,by omega,by simp,nx c l,A⟩
   case measure=>simp[intOf];omega
  |false=>
   have s:=xgv d;clear d;go_wp2;go_ret;exact⟨_,rfl,.inr ⟨i,g,rfl,s.out⟩,nx c l⟩
 obtain rfl:i=n:=by omega
 go_wp2;go_ret;exact⟨_,rfl,.inl ⟨rfl,o.out⟩,c⟩
theorem zBl.cut3{M:List (List Int)}(h:zBl w (.slice ao n cap) M)(t:i<=n):zBl w (.slice ao i i) (M.take i):=by
 obtain⟨o,u,p,d,q,r,s,e⟩:=h;cases d;refine⟨_,i,i,rfl,by simp;omega,xgf _,by omega,fun l=>?_⟩;obtain⟨b,c,f,g,j⟩:=e (by rintro rfl;simp at l);refine⟨b,c,f,g,fun k m a=>j k m ?_⟩;rw[List.getElem?_take]at a;split at a;exact a;cases a
theorem zPl{r:Nat}{F:Nat->Nat->Int}(h:r<=R):(yV R C F).take r=yV r C F:=by
 refine List.ext_getElem? fun k=>?_
 rw[List.getElem?_take];by_cases a:k<r
 .rw[zC a,zCy R C F oM,zCy r C F a]
 rw[zA a,List.getElem?_eq_none (by simp[yV];omega)]
theorem zQA(v:Value)(n:Nat)(f:Nat->Int)(w:World)(h:zAR w v (qQ n f))(b:Bool)(d:b=true↔∀t,t<n->f t=0):
  Calls Tryz.prog 38 #[v] w fun e w'=>e= .returned (.bool b)/\Below w.heap.size w w':=by
 have e:decide (∀z∈qQ n f,z=0)=b:=by
  rw[Bool.eq_iff_iff,d,decide_eq_true_eq];constructor
  .intro h t a
   exact h _ (xgd (qU a))
  intro h z g;obtain⟨t,a⟩:=List.getElem?_of_mem g;have c:t<n:=by
   have:=(xge.1 a).1;rwa[zO]at this
  rw[qU c]at a;injection a with a
  rw[<-a];exact h t c
 rw[<-e];exact zQB v _ w h
theorem zOW{H0:Nat}(hv bv:Value)(RA R C r:Nat)(c:Nat->Nat)(H A:Nat->Nat->Int)(y:Nat->Int)(w:World)(hm:zAo w hv R C (yV R C H))(a1:Hnf C R r c H)(s:zAR w bv (qQ C y))(hR:R<=4)(i4:1<=C)(hC:C<=1000)(c0:H0<=2^30)(c7:1<=H0)
  (hh:∀i,i<R->∀j,j<C->(H i j).natAbs<=H0) (hy:∀j,j<C->(y j).natAbs<=H0) (hA:∀a,a<RA->∃v:Nat->Int,∀j,j<C->A a j=yZ r fun t=>v t*H t j) (g7:¬ ∃d6:Nat->Int,∀j,j<C->y j=yZ r fun t=>d6 t*H t j):
  Calls Tryz.prog 39 #[hv,bv] w fun e w'=>∃v q,e= .returned v/\zDE w' v (zAZ C fun t=>prQ (q t))/\zRM RA C A y q/\(∀t,t<C->HQ 170 (q t))/\Below w.heap.size w w':=by
 obtain⟨Av,rfl,b3⟩:=id hm;obtain⟨ao,n,P,rfl,e2,e3,e4,-⟩:=id b3;obtain rfl:n=R:=by rw[<-e2];simp[yV]
 obtain⟨bo,bn,bc,rfl,f2,f3,f4,-⟩:=id s;obtain rfl:C=bn:=by rw[<-f2,zO]
 have f8:=a1.le;have l1:r<=P:=by omega
 have b5:qS (∀i,i<r->∀j,j<C->ent (yV r C H) i j=H i j):=⟨fun i p j l=>zA9 p l⟩;have O:=xgv (zSg (A:=ent (yV r C H)) (y:=y) a1.ech oM c0 c7 (fun i p j l=>hh i oM j l) hy (fun i p j l=>zA9 p l));have h8:=xgv (fun(h2:Nat->Int) (hu:∀i,i<r->(h2 i).natAbs<=H0)=>zSh (A:=ent (yV C r fun a b=>ent (yV r C H) b a)) (u:=h2) a1.ech oM c0 c7 (fun i p j l=>hh i oM j l) hu (fun i p j l=>by rw[zA9 l p,zA9 p l]));have h3:qS ((∃b:Nat,ao=some ⟨b,0,none⟩)∨r=0):=⟨by
  rcases qY n with h|h
  right;omega;left;obtain⟨b,_,_,_,_,e,-⟩:=b3.row (k:=0) (by simp[yV];omega);exact⟨b,e⟩⟩
 have HM:=xgv hm;have b9:=xgv b3;have HB:=xgv s;have HN:=xgv a1;have HA:=xgv hA;have h6:=xgv g7;have h4:=xgv hh;clear hm b3 s a1 hA g7 hh e2 f2 hy;go_enter Tryz.func39,Tryz.ntmps39;go_upto_region 1 with(fail)
 refine zE ?_;intro W0 e7;obtain⟨e5,o,l2⟩:=qL e7;clear e7;go_wp2;go_loopw [5] (fun iv wr=>∃i:Nat,i<=r/\iv= .int .i64 i/\Below w.heap.size w wr/\Blk wr w.heap.size 29 #[.int .i64 n,.int .i64 C,.slice ao n P]) (fun iv _=>r-(intOf iv).toNat)
 case atStart=>exact⟨0,by omega,rfl,e5,o⟩
 clear e5 o;rename_i Q0 K0 a8;have a5:=xgv a8;have a7:∀{u12 u13 u14 u15 u16 u17 u18 u19 u20 u21 u22 u23 u24 u25 u26:Value} (I:World),Below w.heap.size w I->Blk I w.heap.size 29 #[.int .i64 n,.int .i64 C,.slice ao n P]->K0 {tmps:=#[.agg #[.int .i64 n,.int .i64 C,.slice ao n P],.slice bo C bc,.pointer (some ⟨w.heap.size,0,none⟩),undef,.slice none 0 0,.int .i64 r,undef,undef,undef,undef,undef,undef,u12,u13,u14,u15,u16,u17,u18,u19,u20,u21,u22,u23,u24,u25,u26,undef,undef,undef,undef,undef,undef,undef,undef,undef,undef,undef,undef,undef,undef,undef,undef,undef,undef,undef,undef,undef,undef,undef,undef,undef,undef,undef,undef,undef,undef,undef,undef,undef,undef,undef,undef,undef,undef,undef],defers:=[]} I:=by
  intro u12 u13 u14 u15 u16 u17 u18 u19 u20 u21 u22 u23 u24 u25 u26 I d o;refine a5.out _ _ ?_;obtain⟨c1,Q,T,c4,c5,c6⟩:=o.three;have k8:=zED 29 I.heap.size #[.int .i64 0,.int .i64 0,.slice none 0 0];have k9:=zBs (.slice ao r r);have l3:=o.lt;clear a5 a8 hrel;go_upto_region 4 with(fail)
  refine zBF 10 rfl (RV I _ [VN 0 27 r,VP 1 28 w.heap.size 1,VN 2 29 C,VP 3 30 w.heap.size 2,E 4 31 (.slice ao n P),VN 5 32 r,VN 6 33 r,⟨7,34,fun _ v=>v= .slice ao r r⟩,E 8 35 (.agg #[.int .i64 r,.int .i64 C,.slice ao r r]),⟨9,6,zTf 29 I.heap.size #[.int .i64 0,.int .i64 0,.slice none 0 0]⟩]) kR RV.start (RV.fin kR ?fin1) ?steps1
  case steps1=>
   (repeat' constructor)<;>(intro k6 i0 wS hL hd k7 hI k5 hK;try refine zD rfl ?_)
   .exact xgs (hI.k 5 rfl kR)
   exact xgs (hI.k 2 rfl kR);exact xgt (hI.e mm1 (hd 1)) (hI.cell Q);exact xgs (hI.k 2 rfl kR);exact xgt (hI.e mm3 (hd 3)) (hI.cell T);exact xgs (hI.k 5 rfl kR);exact xgs (hI.k 5 rfl kR)
   .obtain⟨_,m5,rfl⟩:=hI.v mm4 (hd 4)
    obtain⟨_,m6,rfl⟩:=hI.v mm5 (hd 5);obtain⟨_,m7,rfl⟩:=hI.v mm6 (hd 6);rcases h3.out with⟨b0,rfl⟩|rfl
    all_goals go_simp
    all_goals exact hK _ _ (hI.y mm7 rfl)
   .have l9:=hI.e mm0 (hd 0)
    have m0:=hI.e mm2 (hd 2);obtain⟨v7,m8,h7⟩:=hI.v mm7 (hd 7);subst h7;exact xgu
   go_simp;exact hK _ _ ((hI.world ((zB _ _).alloc (xgf _) _)).y mm9 ⟨_,rfl,hI.bel.size,yJ _ _ _⟩)
  intro w1 f6 i0 hT;simp only[Fin,E,EI,VP,VSl,VN,xgg,xgh,xgi,xgj]at hT;obtain⟨l8,e8,rfl⟩:=hT;simp only[xgl,xgk];obtain⟨b6,rfl,b2,f⟩:=(show zTf _ _ _ _ _ from e8);have o:=o.I f6;have d:=nx d f6;have q6:=f.lt;clear c1 Q T c4 c5 c6 e8;obtain⟨U,V,W,X,Y,Z⟩:=f.three;go_upto_region 5 with(fail)
  refine zE ?_;intro W2 c8;have f:Blk W2 b6 29 #[.int .i64 r,.int .i64 C,.slice ao r r]:=by rw[c8.out];exact f.put3 _ _ _
  have qx:=d.size;have d:Below w.heap.size w W2:=by rw[c8.out];exact yM (yM (yM d oM _ _) oM _ _) oM _ _
  have d7:qS (zAo w (.agg #[.int .i64 r,.int .i64 C,.slice ao r r]) r C (yV r C H)):=⟨_,rfl,by rw[<-zPl f8];exact b9.out.cut3 f8⟩;have hF:zBe r C (yV r C H):=zB7 _ _ _;clear c8 U V W X Y Z;obtain⟨U,V,W,X,Y,Z⟩:=f.three;go_wp2_with fail
  refine(zIs (e:=160) _ _ r C (yV r C H) y W2 (d7.out.I d) hF (HB.out.I d) oM hC i4 dE O.out.st O.out.pv).mono ?_;rintro e N ⟨a2,e9⟩;have f:=f.I e9;have d:=nx d e9;have B:=xgv O.out.inv;have J:=xgv ((O.out.st r (xgf _)).2.2.2);obtain⟨S,hS⟩:∃S,zDH C (eqL r (ent (yV r C H)) y) r=S:=⟨_,rfl⟩;rw[hS]at a2 B J;clear hS O U V W X Y Z;rcases a2 with⟨i,yv,s1,s2,s3,rfl,z⟩|⟨xv,m,rfl,z⟩
  .have d2:=zXY B.out s1 s2 s3
   have hq:zRM RA C A y fun t=>Rat.divInt (S.E i (r+1+t)) (S.E i r)/2:=zQc HA.out (fun a x=>by
    rw[<-d2.1 a x];exact qD fun t u=>by rw[b5.out a x t u]) d2.2 fun j l=>by rw[Rat.divInt_eq_div]
   have hH:∀t,t<C->HQ 160 (Rat.divInt (S.E i (r+1+t)) (S.E i r)):=fun t u=>.divInt (J.out i s2 _ oM) (J.out i s2 r oM) s3
   have b8:=xgv hq;have a4:=xgv hH;clear hq hH d2 s3;go_wp2_with fail
   refine(zRl (e:=160) yv C (fun t=>Rat.divInt (S.E i (r+1+t)) (S.E i r)) N z oM dE a4.out).mono ?_;rintro e w4 ⟨hv,rfl,k2,M⟩;go_wp2;go_ret;exact⟨_,_,rfl,k2,b8.out,fun t u=>(a4.out t u).half.mono dE,nx d M⟩
  have d5:=zW6 B.out m;obtain⟨a6,hX⟩:∃a6,zIk S r S.pv.length=a6:=⟨_,rfl⟩;rw[hX]at d5 z;have e0:qS (∀j,j<C->zAw r (fun i=>(H i j:Rat)*a6 i)=y j):=⟨fun j l=>by
   rw[<-d5 j l];exact qD fun i p=>by rw[b5.out i p j l]⟩
  have b7:=xgv z;have l0:=fun i3=>mkV (r:Int) r rfl oM i3
  have k4:=f.lt;clear m hX d5 z;go_upto_region 9 with(fail)
  refine zE ?_;intro W4 c9;have M:Below N.heap.size N W4:=by rw[c9.out];exact(zB _ _).alloc (xgf _) _
  have F:yY W4 N.heap.size (qQ r fun _=>0):=by
   rw[c9.out];obtain⟨_,D,-,f2⟩:=zFX (w:=N) (lo:=0) (n:=r) (zG _);injection D with D
   injection D with D
   injection D with D
   rw[D];exact f2
  have f:=f.I M;have q3:=d.size;have d:=nx d M;have l4:=f.lt;clear c9;obtain⟨ub,h0⟩:∃g,N.heap.size=g:=⟨_,rfl⟩;have b7:=xgv (b7.out.I M);rw[h0]at F q3 k4 ⊢
  clear h0 M;go_wp2_with fail
  refine(zRw xv r a6 W4 b7.out oM).mono ?_;rintro e w5 ⟨k0,rfl,k1,d0⟩;rcases k1 with⟨-,i5⟩|⟨k,d1,rfl,f7⟩
  exact absurd (zQt e0.out i5) h6.out;have F:=F.I d0;have f:=f.I d0;have d:=nx d d0;have h5:=xgv f7;clear f7;go_wp2_with fail
  refine(zDt 1 w5 dE dE).mono ?_;rintro e w6 ⟨l5,rfl,ho,b2⟩;obtain⟨os,oa,ol,oc,rfl⟩:=ho.parts;have F:=F.I b2;have f:=f.I b2;have d:=nx d b2;obtain⟨_,_,_,_,o1,o2,o3,o4,-⟩:=F.cell (k:=k) (qU d1);have d4:=F.set (k:=k) (by rw[zO];exact d1) ho;rw[zDJ]at d4;have d9:=xgv d4;clear d4 ho;go_upto_region 12 with(fail)
  refine zE ?_;intro W7 a9;have d3:=d9.out;rw[<-a9.out]at d3;have f:Blk W7 b6 29 #[.int .i64 r,.int .i64 C,.slice ao r r]:=by
   rw[a9.out];exact(yG w6 ub (k*2) (k*2+1) b6 _ _ oM).trans f
  have d:Below w.heap.size w W7:=by rw[a9.out];exact yM (yM d oM _ _) oM _ _
  obtain⟨U,V,W,X,Y,Z⟩:=f.three;have HU:=xgv (d3.1.vec (zO _ _) (xgf _) (by omega:r<=9223372036854775807));clear d3 a9 d9 o1 o2 o3 o4;go_wp2_with fail
  refine(zFi _ r C (yV r C H) W7 (d7.out.I d) hF oM oM (fun l6 k3 d6 m=>by
   obtain⟨a,x⟩:=List.getElem?_of_mem k3;obtain⟨b,s⟩:=List.getElem?_of_mem m;have i6:a<r:=by
    have:=(xge.1 x).1;simpa[yV]using this
   rw[zCy r C H i6]at x;injection x with x
   subst x;have f5:b<C:=by
    have:=(xge.1 s).1;simpa using this
   have s:(qQ C (H a))[b]?=some d6:=s;rw[qU f5]at s;injection s with s
   rw[<-s];exact jX (e:=31) (zM (h4.out a oM b f5) (zM c0 dE)) dE)).mono ?_
  rintro e w8 ⟨tv,l7,rfl,u,f0⟩;have u:=u.mat.1;have d:=nx d f0;have K:=xgv (h8.out (fun i=>if i=k then 1 else 0) fun i p=>by
   show(if i=k then(1:Int)else 0).natAbs<=H0;split;exact c7;exact zG _)
  have h9:=xgv u;clear u U V W X Y Z;go_wp2_with fail
  refine(zIs (e:=160) _ _ C r (yV C r fun a b=>ent (yV r C H) b a) (fun i=>if i=k then 1 else 0) w8 h9.out (zB7 _ _ _) (HU.out.I f0) hC oM oM dE K.out.1.st K.out.1.pv).mono ?_;rintro e w9 ⟨a2,i7⟩;have d:=nx d i7;have B:=xgv K.out.1.inv;have d8:=xgv K.out.2;have J:=xgv ((K.out.1.st C (xgf _)).2.2.2);obtain⟨L,e6⟩:∃S,zDH r (eqL C (ent (yV C r fun a b=>ent (yV r C H) b a)) fun i=>if i=k then 1 else 0) C=S:=⟨_,rfl⟩;rw[e6]at a2 B d8 J;clear e6 K;rcases a2 with⟨i,yv,s1,s2,s3,rfl,z⟩|⟨qv,m,rfl,z⟩
  rw[d8.out]at s1;omega;have g9:=zW6 B.out m;have hq:zRM RA C A y (zIk L C L.pv.length):=zQd HA.out e0.out (fun i p=>by
   have h1:=g9 i p;rw[qD (g:=fun j=>(H i j:Rat)*zIk L C L.pv.length j) fun j l=>by rw[zA9 l p,b5.out i p j l]]at h1;rw[h1];split;exact Rat.intCast_one;exact Rat.intCast_zero) d1 h5.out
  have hH:∀t,t<C->HQ 170 (zIk L C L.pv.length t):=fun t _=>(zQr B.out dE oM J.out oM t _ (xgf _)).mono dE
  have b8:=xgv hq;have a4:=xgv hH;clear hq hH g9 m;go_wp2;go_ret;exact⟨_,_,rfl,z,b8.out,a4.out,d⟩
 obtain⟨i,p,rfl,d,o⟩:=hrel;obtain⟨c1,Q,T,c4,c5,c6⟩:=o.three;by_cases f9:i<r
 .have i9:i<n:=by omega
  obtain⟨rb,ra,rn,rc,zs,e1,i8,m,G,a3⟩:=b9.out.row (k:=i) (by simp[yV];omega);rw[zCy n C H i9]at m;injection m with m
  subst m;subst e1;have G:=qK G d;have HZ:=xgv (zQA _ C (H i) wr (a3.I d) false ⟨fun h=>(by cases h),fun h=>absurd (h (c i) (HN.out.ech.lt i f9)) (by have:=HN.out.ech.pos i f9;omega)⟩);clear a3;go_wp2_with fail
  refine HZ.out.mono ?_;rintro e w1 ⟨rfl,a0⟩;have o:=o.I a0;clear c1 Q T c4 c5 c6 G;go_wp2;go_roundw
  case rel=>exact⟨i+1,by omega,by simp,nx d a0,o⟩
  case measure=>simp[intOf];omega
 obtain rfl:i=r:=by omega
 by_cases g8:i<n
 .obtain⟨rb,ra,rn,rc,zs,e1,i8,m,G,a3⟩:=b9.out.row (k:=i) (by simp[yV];omega)
  rw[zCy n C H g8]at m;injection m with m
  subst m;subst e1;have G:=qK G d;have HZ:=xgv (zQA _ C (H i) wr (a3.I d) true ⟨fun _ t u=>HN.out.zero i (xgf _) g8 t u,fun _=>rfl⟩);have b4:=xgv @a7;clear a3 a7;go_wp2_with fail
  refine HZ.out.mono ?_;rintro e w1 ⟨rfl,a0⟩;have o:=o.I a0;have d:=nx d a0;clear c1 Q T c4 c5 c6 G a8 a5;go_wp2;exact b4.out w1 d o
 have b4:=xgv @a7;clear a7 a8 a5;go_wp2;exact b4.out wr d o
abbrev tLq:TypeId:=40
theorem Tryz.infoLq:(Tryz.prog.info? tLq).map (fun i=>(i.zero,i.size,i.bytes))=some (some (.slice none 0 0),1,24):=by kernel_rfl
theorem zBa.old{a:List (Int × Int)}(h:zBa w lo v a)(e:∀g,v.ownBlock=some g->w'.heap[g]?=w.heap[g]?)(x:zBC w w'):zBa w' lo v a:=by
 obtain⟨b,⟨d,f⟩,i⟩:=h;refine⟨b,⟨d,?_⟩,i.ext x⟩;rcases f with j|⟨g,cap,c,rfl,k,l,m⟩
 exact .inl j;exact .inr ⟨g,cap,c,rfl,k,(e g rfl).trans l,m⟩
theorem zBa.mono{a:Nat}{b:List (Int × Int)}(h:zBa w lo v b)(l:a<=lo):zBa w a v b:=by
 obtain⟨c,⟨e,f⟩,i⟩:=h;refine⟨c,⟨e,?_⟩,i⟩;rcases f with j|⟨g,cap,d,rfl,m,k⟩
 exact .inl j;exact .inr ⟨g,cap,d,rfl,by omega,k⟩
theorem zBa.type{e:List (Int × Int)}(h:zBa w lo v e)(a:v.ownBlock=some g):∃b,w.heap[g]?=some (.cells b tQ (0,0)):=by
 obtain⟨f,⟨j,c⟩,k⟩:=h;rcases c with⟨rfl,-⟩|⟨i,cap,b,rfl,l,d,m⟩
 cases a;injection a with a
 subst a;exact⟨_,d⟩
def LqV(w:World)(lo:Nat)(v:Value)(M:List (List (Int × Int))):Prop:=
 ∃ao n cap,v= .slice ao n cap/\M.length=n/\n<=cap/\cap<=9223372036854775807/\(M≠ []->∃(b:Nat) (cs:Array Value),ao=some ⟨b,0,none⟩/\w.heap[b]?=some (.cells cs tLq (0,0))/\∀(k:Nat) (zs:List (Int × Int)),M[k]?=some zs->∃rv,cs[k]?=some rv/\zBa w lo rv zs)
theorem LqV.I{M:List (List (Int × Int))}(h:LqV w lo v M)(c:Below w.heap.size w w'):LqV w' lo v M:=by
 obtain⟨ao,n,cap,j,l,m,o,p⟩:=h;refine⟨ao,n,cap,j,l,m,o,fun r=>?_⟩;obtain⟨b,d,e,a,f⟩:=p r;refine⟨b,d,e,(c.block _ (Array.getElem?_eq_some_iff.1 a).1).trans a,fun k t q=>?_⟩;obtain⟨s,g,i⟩:=f k t q;exact⟨s,g,i.I c⟩
theorem LqV.row{M:List (List (Int × Int))}(h:LqV w lo (.slice ao n cap) M){zs:List (Int × Int)}(f:M[k]?=some zs):
  ∃b a c,ao=some ⟨b,0,none⟩/\b<w.heap.size/\w.cell? ⟨b,k,none⟩=some (.slice a zs.length c)/\zBa w lo (.slice a zs.length c) zs:=by
 obtain⟨q,y,r,m,u,v,x,o⟩:=h;injection m with l s t
 subst l;obtain⟨b,j,e,g,p⟩:=o (by rintro rfl;simp at f);obtain⟨z,i,d⟩:=p k _ f;obtain⟨a,c,rfl,-,-⟩:=d.shape;exact⟨b,a,c,e,(Array.getElem?_eq_some_iff.1 g).1,(cell_of_row w b k j _ _ g).trans i,d⟩
def LqO(w:World)(lo base:Nat)(v:Value)(M:List (List (Int × Int))):Prop:=
 ∃rvs,w.ownsRow base tLq 1 v M.length rvs/\∀(k:Nat) (rv:Value) (zs:List (Int × Int)),rvs[k]?=some rv->M[k]?=some zs->zBa w lo rv zs
theorem LqO.I{M:List (List (Int × Int))}(h:LqO w lo base v M)(a:Below w.heap.size w w'):LqO w' lo base v M:=by
 obtain⟨i,d,e⟩:=h;exact⟨i,d.kept (row:=none) ⟨a.os,a.tape,a.output,a.size,fun k f _=>a.block k f⟩ (by cases l:v.ownBlock<;>simp),fun k g j b c=>(e k g j b c).I a⟩
theorem LqO.made(w:World)(a:base<=w.heap.size):LqO (w.alloc (.cells #[] tLq)) lo base (.slice (some ⟨w.heap.size,0,none⟩) 0 0) []:=
 ⟨[],World.ownsRow_made w #[] 0 a (zG _) rfl,fun k _ _ h=>by simp at h⟩
theorem LqO.own{M:List (List (Int × Int))}(h:LqO w lo base v M):∀g,v.ownBlock=some g->base<=g/\g<w.heap.size:=by
 obtain⟨b,a,-⟩:=h;exact zBz a
theorem LqO.shape{M:List (List (Int × Int))}(h:LqO w lo base v M):∃o c,v= .slice o M.length c:=by
 obtain⟨e,b,-⟩:=h;rcases b.2 with⟨rfl,a⟩|⟨g,cap,d,rfl,-⟩
 exact⟨none,0,by rw[a]⟩;exact⟨_,_,rfl⟩
theorem LqO.vs{M:List (List (Int × Int))}(h:LqO w lo base v M):LqV w lo v M:=by
 obtain⟨p,d,n⟩:=h;rcases d.2 with⟨rfl,c⟩|⟨g,cap,f,rfl,r,i,j,l,s,m⟩
 exact⟨none,0,0,rfl,c,xgf _,by omega,fun o=>absurd (zY c) o⟩;refine⟨some ⟨g,0,none⟩,M.length,cap,rfl,rfl,j,l,fun _=>⟨g,f,rfl,i,fun k q e=>?_⟩⟩;have t:=(xge.1 e).1;have u:=d.1;obtain⟨b,a⟩:∃b,p[k]?=some b:=⟨_,xga oM⟩;refine⟨b,?_,n k _ q a e⟩;rw[<-m,List.getElem?_take_of_lt oM]at a;simpa using a
theorem LqO.grown{M:List (List (Int × Int))}{row:Option Nat}(h:LqO w lo base v M)(j:w.grownBy w' row)(l:∀g,row=some g->∃(c:Array Value) (T:TypeId),w.heap[g]?=some (.cells c T (0,0))/\T≠tLq/\T≠tQ)(s:zBC w w'):LqO w' lo base v M:=by
 obtain⟨t,d,f⟩:=h;refine⟨t,d.kept j ?_,fun k m n a b=>(f k m n a b).old (fun g q=>?_) s⟩
 .rcases d.2 with⟨rfl,-⟩|⟨g,cap,o,rfl,-,r,-⟩
  .exact .inl rfl
  refine .inr fun e=>?_
  obtain⟨c,T,a,b,-⟩:=l g e.symm;rw[r]at a;injection a with a
  injection a with _ a
  exact b a.symm
 obtain⟨o,i⟩:=(f k m n a b).type q;refine j.block g (Array.getElem?_eq_some_iff.1 i).1 fun e=>?_
 obtain⟨c,T,a,-,p⟩:=l g e.symm;rw[i]at a;injection a with a
 injection a with _ a
 exact p a.symm
theorem zSP{xs:List Value}{u:Value}{f:List (Int × Int)}(h:w.ownsRow base tLq 1 v n xs)(d:zBa w lo u f)(b:u.ownBlock=some g):v.ownBlock≠some g:=by
 intro e;obtain⟨i,a⟩:=d.type b;rcases h.2 with⟨rfl,-⟩|⟨k,cap,j,rfl,-,c,-⟩
 cases e;injection e with e
 subst e;rw[c]at a;injection a with a
 injection a with _ a
 exact absurd a dE
theorem zTn{w:World}{ops:Array Oper}{rest:List Oper}{o:Oper}{a:Act}{Q:Exit->Act->World->Prop}(H:o.guard=none)(s x:Operand)
  (N:o.op= .call {callee:=.builtin .append,args:=#[s,x],argTypes:=#[70,70]})
  (lo base:Nat) (v:Value) (M:List (List (Int × Int))) (P:a.eval s=v) (O:LqO w lo base v M) (b c:Nat) (p:Value) (r:List (Int × Int)) (n:a.eval x= .slice (some ⟨b,0,none⟩) 1 c)
  (F:Blk w b tLq #[p]) (B:zBa w lo p r)
  (W:M.length+1<=1099511627776) (G:base<=w.heap.size)
  (h:∀t w',LqO w' lo base t (M++ [r])->w.grownBy w' v.ownBlock->zBC w w'->wpList Tryz.prog ops Q rest (a.put o.dst t) w'):wpList Tryz.prog ops Q (o::rest) a w:=by
 obtain⟨U,J,R,S,T⟩:=info_parts Tryz.infoLq;obtain⟨q,m,E⟩:=O;have D:q.length=M.length:=by have:=m.1;omega
 have C:=F.cell 0;refine wpList_append_own w H s x 70 N base tLq U _ 1 24 Tryz.underlying70 J R S T rfl oM v M.length _ P m ⟨b,0,none⟩ 1 c [p] n rfl ?_ ?_ (by simp[maxLen];omega) oM G ?_
 .intro j u y
  rw[jI];match j with
  |0=>simp at y;subst y;exact C
  |j+1=>simp at y
 .intro u i
  simp at i;subst i;obtain⟨_,_,rfl,-⟩:=B.shape;rfl
 intro t w' V z _;have n:=zCA m dE z;have A:∀u l,zBa w lo u l->zBa w' lo u l:=fun u l i=>i.old (fun g d=>z.block g (i.own g d).2 (fun e=>zSP m i d e.symm)) n
 refine h t w' ⟨q++ [p],by simpa using V,fun k u l d f=>?_⟩ z n;rcases zJ k q.length with L|I
 .rw[List.getElem?_append_left L]at d
  rw[List.getElem?_append_left oM]at f;exact A _ _ (E k u l d f)
 rw[List.getElem?_append_right I]at d;rw[List.getElem?_append_right oM,<-D]at f;have K:k-q.length=0:=by
  have:=(xge.1 d).1;simp at this;omega
 rw[K]at d f;simp at d f;subst d;subst f;exact A _ _ B
def zEK(m n:Nat)(B:Nat->Nat->Rat):List (List (Int × Int)):=(List.range m).map fun k=>zAZ n fun t=>prQ (B k t)
theorem zCP(m n:Nat)(B:Nat->Nat->Rat):(zEK m n B).length=m:=by simp[zEK]
theorem zEL{B:Nat->Nat->Rat}(h:k<m):(zEK m n B)[k]?=some (zAZ n fun t=>prQ (B k t)):=by simp[zEK,h]
theorem zG1(m n:Nat)(B:Nat->Nat->Rat):zEK (m+1) n B=zEK m n B++ [zAZ n fun t=>prQ (B m t)]:=by simp[zEK,List.range_succ]
theorem zIT{B E:Nat->Nat->Rat}(h:∀k,k<m->B k=E k):zEK m n B=zEK m n E:=zA1 fun k a=>by rw[h k (by simpa using a)]
structure zKQ(n j m:Nat)(L B:Nat->Nat->Rat):Prop where
 ec:EcB n m B
 row:∀t,t<j->Cmb (n+1) m B (L t)
 bas:∀k,k<m->Cmb (n+1) j L (B k)
theorem zKQ.start(n:Nat)(L B:Nat->Nat->Rat):zKQ n 0 0 L B:=⟨⟨fun _ h=>by omega,fun _ _ _ h=>by omega⟩,fun _ h=>by omega,fun _ h=>by omega⟩
theorem zKQ.rest{L B:Nat->Nat->Rat}(h:zKQ n j m L B):Cmb (n+1) (j+1) L (rdB n B m (L j)):=by
 obtain⟨l,b⟩:=zFR (n:=n) B (L j) m;refine Cmb.add 1 (-1) (Cmb.self (v:=L) (show j<j+1 by omega)) (y:=fun i=>zAw m fun k=>l k*B k i) ?_ fun i c=>by have:=b i;grind
 exact Cmb.trans (v:=B) ⟨l,fun i _=>rfl⟩ fun k a=>(h.bas k a).more oM
theorem zKQ.push{L B:Nat->Nat->Rat}(h:zKQ n j m L B)(d:zDY n (rdB n B m (L j))<n):zKQ n (j+1) (m+1) L (upB B m (rdB n B m (L j))):=by
 refine⟨h.ec.push d,fun t o=>?_,fun k g=>?_⟩
 .by_cases e:t=j
  .subst e
   obtain⟨l,c⟩:=zFR (n:=n) B (L t) m;have b:Cmb (n+1) (m+1) (upB B m (rdB n B m (L t))) fun i=>zAw m fun k=>l k*B k i:=(Cmb.upB (r:=m) ⟨l,fun i _=>rfl⟩ (xgf _)).more oM
   have a:=Cmb.self (n:=n+1) (v:=upB B m (rdB n B m (L t))) (show m<m+1 by omega);rw[zFo]at a;exact Cmb.add 1 1 b a fun i f=>by have:=c i;grind
  exact((h.row t oM).upB (xgf m)).more oM
 by_cases e:k=m
 .subst e
  rw[zFo];exact h.rest
 rw[zEP oM];exact(h.bas k oM).more oM
theorem zKQ.skip{L B:Nat->Nat->Rat}(h:zKQ n j m L B)(d:¬ zDY n (rdB n B m (L j))<n)(f:rdB n B m (L j) n=0):zKQ n (j+1) m L B:=by
 refine⟨h.ec,fun t p=>?_,fun k b=>(h.bas k b).more oM⟩;by_cases e:t=j
 .subst e
  obtain⟨l,c⟩:=zFR (n:=n) B (L t) m;refine⟨l,fun i o=>?_⟩;have a:rdB n B m (L t) i=0:=by
   rcases zJ i n with g|g
   exact zH3 d g;obtain rfl:i=n:=by omega
   exact f
  rw[c i,a];grind
 exact h.row t oM
theorem zKQ.none{L B:Nat->Nat->Rat}(h:zKQ n j m L B)(c:¬ zDY n (rdB n B m (L j))<n)(f:rdB n B m (L j) n≠0){x:Nat->Rat}(e:∀t,t<j+1->L t n=zAw n fun i=>x i*L t i):False:=by
 obtain⟨y,a⟩:=h.rest;apply f;rw[a n oM,qD (g:=fun t=>zAw n fun i=>x i*(y t*L t i)) fun t d=>by
  rw[e t d,<-zA4];exact qD fun i _=>by grind]
 rw[zEN];exact zC5 fun i b=>by
  rw[zA4,<-a i oM,zH3 c b];grind
theorem EcB.solve{B:Nat->Nat->Rat}(h:EcB n m B)(f:Nat->Rat):∃x:Nat->Rat,∀l,l<m->(zAw n fun i=>x i*B l i)=f l:=by
 have u:∀d,d<=m->∃x:Nat->Rat,∀l,m-d<=l->l<m->(zAw n fun i=>x i*B l i)=f l:=by
  intro d;induction d with
  |zero=>intro _;exact⟨fun _=>0,fun l p a=>by omega⟩
  | succ d t=>
   intro hd;obtain⟨x,b⟩:=t oM;obtain⟨k,w⟩:∃k,m-(d+1)=k:=⟨_,rfl⟩;have g:k<m:=by omega
   have y:=zE0 (h.piv k g);obtain⟨c,v⟩:∃c,(f k-zAw n fun i=>x i*B k i)/B k (zDY n (B k))=c:=⟨_,rfl⟩;have s:∀l,(zAw n fun i=>(x i+if i=zDY n (B k)then c else 0)*B l i)=(zAw n fun i=>x i*B l i)+c*B l (zDY n (B k)):=fun l=>by
    have j:(zAw n fun i=>(x i+if i=zDY n (B k)then c else 0)*B l i)=zAw n fun i=>1*(x i*B l i)+1*((if i=zDY n (B k)then c else 0)*B l i):=qD fun i _=>by grind
    have o:(zAw n fun i=>(if i=zDY n (B k)then c else 0)*B l i)=c*B l (zDY n (B k)):=by
     rw[zDa (k:=zDY n (B k)) (h.piv k g) fun i _ r=>by rw[zA r];grind,zC rfl]
    rw[j,zEn,o];grind
   refine⟨fun i=>x i+if i=zDY n (B k)then c else 0,fun l p a=>?_⟩;rw[s l];by_cases e:l=k
   .subst e;grind
   rw[h.zero k l oM a,b l oM a];grind
 obtain⟨x,b⟩:=u m (xgf _);exact⟨x,fun l q=>b l oM q⟩
theorem zKQ.some{L B:Nat->Nat->Rat}(h:zKQ n j m L B):∃x:Nat->Rat,∀t,t<j->L t n=zAw n fun i=>x i*L t i:=by
 obtain⟨x,d⟩:=h.ec.solve fun l=>B l n
 refine⟨x,fun t c=>?_⟩;obtain⟨l,a⟩:=h.row t c;rw[a n oM,qD (g:=fun k=>zAw n fun i=>l k*(x i*B k i)) fun k b=>by rw[zA4,d k b],zEN];exact qD fun i e=>by
  rw[a i oM,<-zA4];exact qD fun k _=>by grind
/-! The determinant by elimination. -/
def zF4:Nat->(Nat->Rat)->Rat
 |0,_=>1
 |n+1,f=>zF4 n f*f n
theorem zEi{f g:Nat->Rat}(h:∀i,i<n->f i=g i):zF4 n f=zF4 n g:=by
 induction n with
 |zero=>rfl
 |succ n a=>show _*_=_*_;rw[a fun i b=>h i oM,h n oM]
theorem zNT{f:Nat->Rat}(h:∀i,i<n->f i≠0):zF4 n f≠0:=by
 induction n with
 |zero=>show(1:Rat)≠0;decide
 |succ n a=>
  show _*_≠_;intro e;exact(Rat.mul_eq_zero.1 e).elim (a fun i b=>h i oM) (h n oM)
theorem zKy{f g:Nat->Rat}{c:Rat}(j:i<n)(h:∀k,k<n->k≠i->g k=f k)(hc:g i=c*f i):zF4 n g=c*zF4 n f:=by
 induction n with
 |zero=>omega
 | succ n d=>
  show _*_=_*(_*_);by_cases e:i=n
  .subst e
   rw[zEi fun k a=>h k oM oM,hc];grind
  rw[d oM fun k a b=>h k oM b,h n oM oM];grind
theorem zQO{f g:Nat->Rat}:(zF4 n fun i=>f i*g i)=zF4 n f*zF4 n g:=by
 induction n with
 |zero=>show(1:Rat)=1*1;grind
 |succ n a=>show _*_=_*_*(_*_);rw[a];grind
theorem zNs{f:Nat->Int}:((zBd n f:Int):Rat)=zF4 n fun i=>(f i:Rat):=by
 induction n with
 |zero=>rfl
 |succ n a=>show((zBd n f*f n:Int):Rat)=_*_;rw[Rat.intCast_mul,a]
def zKH(n:Nat)(F:Nat->Nat->Rat)(δ:Rat):Prop:=∃(d:Nat->Int) (G:Nat->Nat->Int),(∀i,i<n->d i≠0)/\(∀i,i<n->∀j,j<n->(G i j:Rat)=d i*F i j)/\((det n G:Int):Rat)=(zF4 n fun i=>(d i:Rat))*δ
theorem zKH.congr{F E:Nat->Nat->Rat}{c:Rat}(h:zKH n F c)(k:∀i,i<n->∀j,j<n->E i j=F i j):zKH n E c:=by
 obtain⟨d,G,e,f,g⟩:=h;exact⟨d,G,e,fun i a j b=>by rw[f i a j b,k i a j b],g⟩
theorem zKH.start(n:Nat)(M:Nat->Nat->Int):zKH n (fun i j=>(M i j:Rat)) ((det n M:Int):Rat):=
 ⟨fun _=>1,M,fun _ _=>Int.one_ne_zero,fun i _ j _=>by
  show _=((1:Int):Rat)*_;have:((1:Int):Rat)=1:=rfl;rw[this];grind,by
  have:(zF4 n fun _=>(((1:Int)):Rat))=1:=by
   induction n with
   |zero=>rfl
   |succ n a=>show _*(1:Rat)=_;rw[a];grind
  rw[this];grind⟩
theorem zKH.row{F:Nat->Nat->Rat}{u:Rat}(h:zKH n F u)(o:i<n)(r:k<n)(s:k≠i)(q:Rat):zKH n (fun a b=>if a=i then F i b-q*F k b else F a b) u:=by
 obtain⟨d,G,j,l,v⟩:=h;have t:(q.den:Int)≠0:=by have:=q.den_nz;omega
 have w:q*(((q.den:Int)):Rat)=(q.num:Rat):=by
  have j:q=(q.num:Rat)/(((q.den:Int)):Rat):=by rw[<-Rat.divInt_eq_div,Rat.num_divInt_den]
  have l:(((q.den:Int)):Rat)≠0:=by exact_mod_cast t
  grind
 refine⟨fun a=>if a=i then d k*q.den*d i else d a,zEs G i fun b=>d k*q.den*G i b+(-(q.num*d i))*G k b,fun a m=>?_,fun a m b p=>?_,?_⟩
 .dsimp only
  split;exact Int.mul_ne_zero (Int.mul_ne_zero (j k r) t) (j i o);exact j a m
 .unfold zEs
  dsimp only;by_cases e:a=i
  .subst e
   rw[zC rfl,zC rfl,zC rfl,Rat.intCast_add,Rat.intCast_mul,Rat.intCast_mul,Rat.intCast_mul,Rat.intCast_mul,Rat.intCast_neg,Rat.intCast_mul,l a m b p,l k r b p,<-w];rw[Rat.intCast_mul];grind
  rw[zA e,zA e,zA e,l a m b p]
 rw[zEZ o,zLC o r s,zLD,zZ,jN,Rat.intCast_mul,v];rw[zKy (f:=fun a=>(d a:Rat)) (g:=fun a=>((if a=i then d k*q.den*d i else d a:Int):Rat)) (c:=((d k*q.den:Int):Rat)) o (fun a _ s=>by rw[zA s]) (by rw[zC rfl,Rat.intCast_mul])];grind
theorem zKH.neg{F:Nat->Nat->Rat}{p:Rat}(h:zKH n F p)(o:i<n):zKH n (fun a b=>if a=i then-F i b else F a b) (-p):=by
 obtain⟨d,G,k,l,q⟩:=h;refine⟨fun a=>if a=i then-d i else d a,G,fun a j=>?_,fun a j b m=>?_,?_⟩
 .dsimp only
  split;have:=k i o;omega;exact k a j
 .dsimp only
  by_cases e:a=i
  .subst e;rw[zC rfl,zC rfl,l a j b m,Rat.intCast_neg];grind
  rw[zA e,zA e,l a j b m]
 rw[q,zKy (f:=fun a=>(d a:Rat)) (g:=fun a=>((if a=i then-d i else d a:Int):Rat)) (c:=-1) o (fun a _ r=>by rw[zA r]) (by rw[zC rfl,Rat.intCast_neg];grind)];grind
theorem zKH.swap{F:Nat->Nat->Rat}{j:Rat}(h:zKH n F j)(f:i<n)(d:k<n)(c:i≠k):zKH n (fun a=>if a=i then F k else if a=k then F i else F a) (-j):=by
 have l:=h.row f d (zL c) (-1);have m:=l.row d f c 1;have o:=m.row f d (zL c) (-1);refine(o.neg d).congr fun a p b q=>?_
 by_cases e:a=i
 .subst e;simp only[if_true,if_neg c,if_neg (Ne.symm c)];grind
 by_cases g:a=k
 .subst g;simp only[if_true,if_neg c,if_neg (Ne.symm c)];grind
 simp only[if_neg e,if_neg g]
theorem zKH.upper{F:Nat->Nat->Rat}{k:Rat}(h:zKH n F k)(q:∀a,a<n->∀b,b<n->b<a->F a b=0):k=zF4 n fun i=>F i i:=by
 obtain⟨d,G,l,e,m⟩:=h;have o:∀a,a<n->∀b,b<n->b<a->G a b=0:=fun a f b j p=>by
  have:(G a b:Rat)=0:=by rw[e a f b j,q a f b j p];grind
  exact_mod_cast this
 rw[zHy o,zNs,zEi (g:=fun i=>(d i:Rat)*F i i) fun i c=>e i c i c,zQO]at m;have r:(zF4 n fun i=>(d i:Rat))≠0:=zNT fun i c=>by
  have:=l i c;exact_mod_cast this
 grind
structure zIf(n k:Nat)(M:Nat->Nat->Int)(F:Nat->Nat->Rat)(out:Rat):Prop where
 up:∀j,j<k->∀i,i<n->j<i->F i j=0
 piv:∀j,j<k->F j j≠0
 det:∃ε:Rat,ε*ε=1/\out=ε*(zF4 k fun j=>F j j)/\zKH n F (ε*((Go.Proofs.YtniiekppgdkknaaGreat.det n M:Int):Rat))
 sol:∀y:Nat->Rat,(∀i,i<n->(zAw n fun j=>F i j*y j)=0)->∀i,i<n->(zAw n fun j=>(M i j:Rat)*y j)=0
theorem zIf.start(n:Nat)(M:Nat->Nat->Int):zIf n 0 M (fun i j=>(M i j:Rat)) 1:=
 ⟨fun _ h=>by omega,fun _ h=>by omega,⟨1,by grind,by show(1:Rat)=1*1;grind,by
  have:=zKH.start n M
  have e:(1:Rat)*((Go.Proofs.YtniiekppgdkknaaGreat.det n M:Int):Rat)=((Go.Proofs.YtniiekppgdkknaaGreat.det n M:Int):Rat):=by grind
  rw[e];exact this⟩,fun _ h=>h⟩
theorem zIf.swap{F:Nat->Nat->Rat}{r:Rat}(h:zIf n k M F r)(m:k<n)(l:i<n)(z:k<i):zIf n k M (fun a=>if a=k then F i else if a=i then F k else F a) (-r):=by
 obtain⟨c,s,⟨p,x,t,u⟩,v⟩:=h;refine⟨fun j b a d w=>?_,fun j b=>?_,⟨-p,by grind,?_,?_⟩,fun y o=>v y fun a d=>?_⟩
 .
  split;exact c j b i l oM;split;exact c j b k m oM;exact c j b a d w
 .rw[zA oM,zA oM]
  exact s j b
 .rw[t,zEi (f:=fun j=>(if j=k then F i else if j=i then F k else F j) j) (g:=fun j=>F j j) fun j b=>by rw[zA oM,zA oM]]
  grind
 .have:=u.swap m l oM
  have e:-(p*((Go.Proofs.YtniiekppgdkknaaGreat.det n M:Int):Rat))=-p*((Go.Proofs.YtniiekppgdkknaaGreat.det n M:Int):Rat):=by grind
  rw[<-e];exact this
 by_cases e:a=k
 .subst e
  have:=o i l;simpa[if_neg (show ¬ i=a by omega)]using this
 by_cases q:a=i
 .subst q
  have:=o k m;simpa using this
 have:=o a d;simpa[if_neg e,if_neg q]using this
structure zRK(n k i:Nat)(M:Nat->Nat->Int)(F:Nat->Nat->Rat)(out:Rat):Prop where
 st:zIf n k M F out
 col:∀a,k<a->a<i->F a k=0
 pk:F k k≠0
theorem zRK.step{F:Nat->Nat->Rat}{p:Rat}(h:zRK n k i M F p)(m:i<n)(B:k<i):zRK n k (i+1) M (fun a b=>if a=i then F i b-F i k/F k k*F k b else F a b) p:=by
 have z:=h.pk;obtain⟨⟨f,q,⟨A,r,s,t⟩,u⟩,v,-⟩:=h;refine⟨⟨fun j c a d w=>?_,fun j c=>?_,⟨A,r,?_,t.row m oM oM _⟩,fun y l=>u y fun a d=>?_⟩,fun a x d=>?_,?_⟩
 .
  split;rw[f j c i m oM,f j c k oM oM];grind;exact f j c a d w
 rw[zA oM];exact q j c;rw[s];exact congrArg _ (zEi fun j c=>by rw[zA oM])
 .have o:=l k oM
  rw[qD (g:=fun j=>F k j*y j) fun j _=>by rw[zA oM]]at o;by_cases e:a=i
  .subst e
   have:=l a d;rw[qD (g:=fun j=>1*(F a j*y j)+(-(F a k/F k k))*(F k j*y j)) fun j _=>by rw[zC rfl];grind,zEn,o]at this;grind
  have:=l a d;rwa[qD (g:=fun j=>F a j*y j) fun j _=>by rw[zA e]]at this
 .
  split;grind;exact v a x oM
 rw[zA oM];exact z
theorem zRK.done{F:Nat->Nat->Rat}{d:Rat}(h:zRK n k n M F d)(t:k<n):zIf n (k+1) M F (d*F k k):=by
 have r:=h.pk;obtain⟨⟨f,g,⟨s,i,l,m⟩,o⟩,p,-⟩:=h;refine⟨fun j q a b c=>?_,fun j q=>?_,⟨s,i,by rw[l];show _=_*(_*_);grind,m⟩,o⟩
 .by_cases e:j=k
  .subst e;exact p a c b
  exact f j oM a b c
 by_cases e:j=k
 .subst e;exact r
 exact g j oM
theorem zIf.end{F:Nat->Nat->Rat}{c:Rat}(h:zIf n n M F c):c=((Go.Proofs.YtniiekppgdkknaaGreat.det n M:Int):Rat)/\Go.Proofs.YtniiekppgdkknaaGreat.det n M≠0:=by
 obtain⟨i,j,⟨s,q,d,k⟩,r⟩:=h;have f:=k.upper fun a m b p o=>i b p a m o
 rw[<-f]at d;have l:c=((Go.Proofs.YtniiekppgdkknaaGreat.det n M:Int):Rat):=by rw[d];grind
 refine⟨l,fun e=>?_⟩;have g:=zNT j;rw[<-f,e]at g;apply g;have:((0:Int):Rat)=0:=rfl;rw[this];grind
theorem zIf.pivot{F:Nat->Nat->Rat}{B:Rat}(h:zIf n k M F B)(t:k<n)(v:zGd n n fun l i=>(M i l:Rat)):∃i,k<=i/\i<n/\F i k≠0:=by
 by_cases r:∃i,k<=i/\i<n/\F i k≠0
 .exact r
 exfalso;have x:∀i,k<=i->i<n->F i k=0:=fun i a b=>by
  by_cases e:F i k=0
  .exact e
  exact absurd ⟨i,a,b,e⟩ r
 have A:∀d,d<=k->∃y:Nat->Rat,y k=1/\(∀j,k<j->y j=0)/\∀i,k-d<=i->i<n->(zAw n fun j=>F i j*y j)=0:=by
  intro d;induction d with
  |zero=>
   intro _;refine⟨fun j=>if j=k then 1 else 0,zC rfl,fun j s=>zA oM,fun i a b=>?_⟩;rw[zDa (k:=k) t fun j _ p=>by dsimp only;rw[zA p];grind];dsimp only;rw[x i oM b];grind
  | succ d z=>
   intro hd;obtain⟨y,a,b,m⟩:=z oM;obtain⟨l,D⟩:∃l,k-(d+1)=l:=⟨_,rfl⟩;have u:l<k:=by omega
   have E:=h.piv l u;obtain⟨c,C⟩:∃c,-(zAw n fun j=>F l j*y j)/F l l=c:=⟨_,rfl⟩;have w:∀i,(zAw n fun j=>F i j*(y j+if j=l then c else 0))=(zAw n fun j=>F i j*y j)+c*F i l:=fun i=>by
    rw[qD (g:=fun j=>1*(F i j*y j)+1*(if j=l then c*F i j else 0)) fun j _=>by split<;>grind,zEn,zDa (k:=l) oM fun j _ p=>zA p,zC rfl];grind
   refine⟨fun j=>y j+if j=l then c else 0,?_,fun j s=>?_,fun i q f=>?_⟩;dsimp only;rw[zA oM,a];grind;dsimp only;rw[zA oM,b j s];grind;rw[w i];by_cases e:i=l
   .subst e;grind
   rw[h.up l u i f oM,m i oM f];grind
 obtain⟨y,a,-,m⟩:=A k (xgf _);have q:=h.sol y fun i o=>m i oM o
 have f:=v y (fun i o=>by
  rw[<-q i o];exact qD fun j _=>by grind) k t
 rw[a]at f;exact absurd f dE
theorem zRK.run{F:Nat->Nat->Rat}{c:Rat}(h:zIf n k M F c)(p:k<n)(f:F k k≠0):∀i,k<i->i<=n->∃b,zRK n k i M b c:=by
 intro i;induction i with
 |zero=>intro h;omega
 | succ i g=>
  intro j l;by_cases e:i=k
  .subst e
   exact⟨F,h,fun a m o=>by omega,f⟩
  obtain⟨b,d⟩:=g oM oM;exact⟨_,d.step oM oM⟩
theorem zVR(j:zGd n n fun l i=>(M i l:Rat)):det n M≠0:=by
 have o:∀k,k<=n->∃F b,zIf n k M F b:=by
  intro k;induction k with
  |zero=>intro _;exact⟨_,_,zIf.start n M⟩
  | succ k m=>
   intro q;obtain⟨F,b,h⟩:=m oM;obtain⟨i,p,f,c⟩:=h.pivot oM j;by_cases e:i=k
   .subst e
    obtain⟨d,a⟩:=zRK.run h oM c n oM (xgf _);exact⟨_,_,a.done oM⟩
   have g:=h.swap (i:=i) oM f oM;obtain⟨d,a⟩:=zRK.run g oM (by rw[zC rfl];exact c) n oM (xgf _);exact⟨_,_,a.done oM⟩
 obtain⟨F,b,h⟩:=o n (xgf _);exact h.end.2
theorem zSF{s:Nat}{τ:Nat->Nat}{B d:Nat->Nat->Rat}(hI:zHS C R m (fun i j=>(A i j:Rat)) σ B)(a:zHS R C s (fun j i=>(A i j:Rat)) τ d):
  m=s/\(zGd m m fun l i=>(A (σ i) (τ l):Rat))/\∀b:Nat->Int,(Cmb C R (fun i j=>(A i j:Rat)) fun j=>(b j:Rat))↔∃x:Nat->Int,∀j,j<C->det m (fun k l=>A (σ k) (τ l))*b j=yZ R fun i=>x i*A i j:=by
 obtain⟨rfl,f,c⟩:=zUj (A:=fun i j=>(A i j:Rat)) hI.ind hI.lt hI.span a.ind a.lt a.span;refine⟨rfl,c,fun b=>⟨fun h=>zSE hI.lt a.lt hI.span h,fun⟨x,e⟩=>zIQ (zVR c) e⟩⟩
theorem zQu{m:Nat}{b:Nat->Int}{l L B:Nat->Nat->Rat}(hI:zHS C R n (fun i j=>(A i j:Rat)) σ l)
  (c:∀t,t<C->(∀i,i<n->L t i=A (σ i) t)/\L t n=b t) (h:zKQ n j m L B):
  (j=C->Cmb C R (fun i j=>(A i j:Rat)) fun j=>(b j:Rat))/\(j<C->¬ zDY n (rdB n B m (L j))<n->rdB n B m (L j) n≠0->¬ Cmb C R (fun i j=>(A i j:Rat)) fun j=>(b j:Rat)):=by
 refine⟨fun e=>?_,fun u r s p=>?_⟩
 .subst e
  obtain⟨x,g⟩:=h.some;have o:Cmb j n (fun k j=>(A (σ k) j:Rat)) fun j=>(b j:Rat):=⟨x,fun t d=>by
   have a:=g t d;rw[(c t d).2]at a;refine a.trans ?_;exact qD fun i f=>by rw[(c t d).1 i f]⟩
  exact o.trans fun k q=>Cmb.self (v:=fun i j=>(A i j:Rat)) (hI.lt k q)
 obtain⟨x,g⟩:=p.trans hI.span;exact h.none r s (x:=x) fun t d=>by
  rw[(c t oM).2];have a:=g t oM;refine Eq.trans a ?_;exact qD fun i f=>by rw[(c t oM).1 i f]
theorem zJe{q:Rat}:(zAB q.num 0==0)=decide (q=0):=by
 unfold zAB;by_cases e:q=0
 .subst e;rfl
 have h:=zKs e;rw[zR e];split;rfl;rw[zC oM];rfl
theorem zUB{q:Nat->Rat}(d:k<n)(a:q k≠0)(b:∀j,j<k->q j=0):zDY n q=k:=
 zDp (zG _) oM (by simpa using a) fun j _ c=>by simpa using b j c
theorem zPi{q:Nat->Rat}(h:∀j,j<n->q j=0):zDY n q=n:=by
 have a:=zPh n q;by_cases e:zDY n q<n
 .exact absurd (h _ e) (zE0 e)
 omega
theorem zEj(z:Value)(n m:Nat)(q:Nat->Rat)(w:World)(r:zDE w z (zAZ m fun t=>prQ (q t)))(X:n<=m)(W:m<=1000000):
  Calls Tryz.prog 30 #[z,.int .i64 n] w fun e w'=>e= .returned (.int .i64 (zDY n q))/\Below w.heap.size w w':=by
 obtain⟨ao,F,P,rfl,A,R,S,-⟩:=id r;obtain rfl:m=F:=by rw[<-A,zU]
 obtain⟨N,p⟩:∃N,zDY n q=N:=⟨_,rfl⟩;have y:=xgw p;rw[p];have C:=xgv r;clear r A p;go_enter Tryz.func30,Tryz.ntmps30;go_wp2;go_loopw [5] (fun u wr=>∃i:Nat,i<=n/\u= .int .i64 i/\qS (∀j,j<i->q j=0)/\Below w.heap.size w wr) (fun u _=>n-(intOf u).toNat)
 case atStart=>exact⟨0,by omega,rfl,⟨fun j L=>by omega⟩,zB _ _⟩
 obtain⟨i,U,rfl,h,a⟩:=hrel;by_cases M:i<n
 .obtain⟨b,a0,o,l,c,s',Z,Y,Q,rfl,T,G,H,I,J,B⟩:=zB1 (C.out.I a) (show i<m by omega)
  have D:=xgv B;obtain⟨k,d⟩:∃k,zAB (q i).num 0=k:=⟨_,rfl⟩;have x:qS ((k==0)=decide (q i=0)):=⟨d ▸ zJe⟩;have E:qS (∀(v:Value) (w:World),zAx w v (q i)->Calls Tryz.prog 31 #[v] w fun e w'=>e= .returned (.int .i64 k)/\Below w.heap.size w w'):=⟨fun v w O=>d ▸ zGy v _ w O⟩;clear B d;have V:i<m:=by omega
  go_wp2_with fail
  refine(E.out _ wr D.out).mono ?_;rintro e w1 ⟨rfl,K⟩;have a:=nx a K;clear G H I J;by_cases f:q i=0
  .have d:k=0:=by
    have:=x.out;rw[zT f]at this;simpa using this
   subst d;go_wp2;go_roundw
   case rel=>exact⟨i+1,by omega,by simp,⟨fun j L=>by
    rcases zJ j i with g|g
    exact h.out j g;obtain rfl:j=i:=by omega
    exact f⟩,a⟩
   case measure=>simp[intOf];omega
  have d:¬ k=0:=by
   have:=x.out;rw[zR f]at this;simpa using this
  have s:N=i:=y.out.symm.trans (zUB M f h.out);subst s;go_wp2;go_ret;exact⟨rfl,a⟩
 obtain rfl:i=n:=by omega
 have s:N=i:=y.out.symm.trans (zPi h.out);subst s;go_wp2;go_ret;exact⟨rfl,a⟩
def zTg(q:Rat)(w:World)(v:Value):Prop:=∃b s a l c s' a' l' c',v= .slice (some ⟨b,0,none⟩) 1 1/\Blk w b tQ #[.bool s,.slice a l c,.bool s',.slice a' l' c']/\yA w (.agg #[.bool s,.slice a l c]) (prQ q).1/\yA w (.agg #[.bool s',.slice a' l' c']) (prQ q).2
theorem zFw(q:Rat):zAA (zTg q):=fun _ _ _ e ⟨b,s,a,l,c,m,d,k,f,g,h,i,j⟩=>⟨b,s,a,l,c,m,d,k,f,g,h.I e,i.ext (lx e),j.ext (lx e)⟩
theorem zJF{ea eb ec:Nat}(Q R S:Value)(n m:Nat)(p q:Nat->Rat)(c:Rat)(w:World)(G:zDE w Q (zAZ n fun t=>prQ (p t)))(H:zDE w R (zAZ m fun t=>prQ (q t)))(hc:zAx w S c)(e5:n<=m)(hm:m<=1000000)
  (hp:∀j,j<n->HQ ea (p j)) (hq:∀j,j<n->HQ eb (q j)) (a0:HQ ec c) (he:ea+(ec+eb)+1<=1000000):
  Calls Tryz.prog 60 #[Q,R,S] w fun e w'=>∃u,e= .returned u/\zBa w' w.heap.size u (zAZ n fun j=>prQ (p j-c*q j))/\Below w.heap.size w w':=by
 obtain⟨ao,an,ac,rfl,U,g3,g4,-⟩:=id G;obtain rfl:n=an:=by rw[<-U,zU]
 obtain⟨bo,bn,bc,rfl,T,f3,f4,-⟩:=id H;obtain rfl:m=bn:=by rw[<-T,zU]
 have HA:=xgv G;have a3:=xgv H;have HC:=xgv hc;have HP:=xgv hp;have N:=xgv hq;have M:=xgv a0;obtain⟨z1,z2,z3,z4,z5,z6,z7,z8,rfl,-,-⟩:=hc;clear G H hp hq a0 U T;go_enter Tryz.func60,Tryz.ntmps60;go_upto_region 1 with(fail)
 refine zE ?_;intro l W;obtain⟨V,f,c0⟩:=qL W;clear W;go_upto_region 2 with(fail)
 refine zE ?_;intro D E;have s:Below l.heap.size l D:=by rw[E.out];exact(zB _ _).alloc (xgf _) _
 have h:zBa D l.heap.size (.slice (some ⟨l.heap.size,0,none⟩) 0 0) []:=by rw[E.out];exact zBa.made l (xgf _)
 have f:=f.I s;have q0:=V.size;have d:=nx V s;obtain⟨base,Z⟩:∃g,l.heap.size=g:=⟨_,rfl⟩;rw[Z]at h c0 q0 ⊢
 have I:base<=D.heap.size:=by have:=s.size;omega
 clear E s Z;go_wp2;go_loopw [7,8] (fun u K wr=>∃i:Nat,i<=n/\K= .int .i64 i/\zBa wr base u (zAZ i fun j=>prQ (p j-c*q j))/\Below w.heap.size w wr/\Blk wr w.heap.size tQ #[.bool z1,.slice z2 z3 z4,.bool z5,.slice z6 z7 z8]/\base<=wr.heap.size) (fun _ K _=>n-(intOf K).toNat)
 case atStart=>exact⟨0,by omega,rfl,h,d,f,I⟩
 clear d f h I;obtain⟨i,hi,rfl,h,d,f,I⟩:=hrel;obtain⟨c1,c2,c3,c4,c5,c6,c7,c8⟩:=f.four;by_cases y:i<n
 .obtain⟨uo,uc,rfl⟩:∃o k,u7= .slice o i k:=by
   obtain⟨o,k,e,-,-⟩:=h.shape;rw[zU]at e;exact⟨_,_,e⟩
  obtain⟨ba,f0,o,e8,k,s',o',l',k',rfl,d0,e1,e2,e3,e4,a1⟩:=zB1 (HA.out.I d) y;obtain⟨bb,t,f7,f8,e9,t',x',y',r',rfl,d5,d1,d2,d3,d4,a2⟩:=zB1 (a3.out.I d) (show i<m by omega);have a7:=xgv a1;have a8:=xgv a2;have C:=xgv h;have a4:=xgv (HC.out.I d);have d7:i<m:=by omega
  obtain⟨F,hF⟩:∃F:Nat->Rat,(fun j=>p j-c*q j)=F:=⟨_,rfl⟩;have c9:qS (F i=p i-c*q i):=⟨by rw[<-hF]⟩;have d8:=jK (c*q i);have d9:=jK (p i-c*q i);clear a1 a2 h;go_upto_region 5 with(fail)
  have e0:=zFw (p i-c*q i);refine yD 13 [pcD 10 [] (fun w v=>zAx w v (c*q i)),pcD 11 [10] (fun w v=>zAx w v (p i-c*q i)),pcD 12 [11] (zTg (p i-c*q i))] ?_;refine sRd ?_;refine sRc (fun B hI L r=>by go_simp;exact ck r (zE9 (a:=ec) (b:=eb) _ _ c (q i) _ (a4.out.I hI.bel) (a8.out.I hI.bel) M.out (N.out i y) oM)) (fun f1 _=>?_);refine sRc (fun B hI b2 L r=>by go_simp;exact ck r (zK5 (a:=ea) (b:=ec+eb) _ _ (p i) _ _ (a7.out.I hI.bel) b2 (HP.out i y) (M.out.mul (N.out i y)) oM)) (fun f5 _=>?_);refine sRc (fun B hI b3 L r=>?_) (fun f6 hv=>?_)
  .obtain⟨s5,O,l5,k5,s6,P,l6,k6,rfl,z,A⟩:=(show zAx _ _ _ from b3)
   have Y:=(zB B.heap.size B).alloc (xgf _) (.cells #[.bool s5,.slice O l5 k5,.bool s6,.slice P l6 k6] tQ);go_simp;exact r _ _ ⟨_,_,_,_,_,_,_,_,_,rfl,yJ _ _ _,z.ext (lx Y),A.ext (lx Y)⟩
  obtain⟨_,-,a9,s5,O,l5,k5,s6,P,l6,k6,rfl,-⟩:=hv;refine sRe ?_;intro w2 x b6 b7 X;obtain⟨b',t5,x5,y5,r5,t6,x6,y6,r6,b0,b8,z,A⟩:=(show zTg _ _ _ from X);cases b0;have I5:=xgv z;have I6:=xgv A;have b5:=C.out.I x;have f:=f.I x;have d:=nx d x;have e6:=x.size;clear z A c1 c2 c3 c4 c5 c6 c7 c8 d1 d2 d3 d4 e1 e2 e3 e4 b6 b7 X;go_wp2_with (at_builtin;go_loud (refine zTo rfl _ _ rfl base (.slice uo i uc) (zAZ i fun j=>prQ (p j-c*q j)) rfl b5 a9 1 _ _ _ _ _ _ _ _ (prQ (p i-c*q i)) rfl b8 I5.out I6.out (by rw[zU];omega) oM ?_;intro v' w' b9 J e7))
  have b4:Below w.heap.size w w':=d.grown J (by have:=d.size;omega) (fun g hg=>by have:=C.out.own g hg;omega);have d6:=J.size;go_roundw
  case rel=>exact⟨i+1,by omega,by simp,by rw[zEC];exact b9,b4,(J.block _ f.lt (fun e=>by have:=C.out.own _ e.symm;omega)).trans f,by omega⟩
  case measure=>simp[intOf];omega
 obtain rfl:i=n:=by omega
 go_wp2;go_ret;exact⟨_,rfl,h.mono q0,d⟩
theorem zJG(v:Value)(C:Nat)(x:Nat->Int)(w:World)(h:zAR w v (qQ C x))(hC:C<=1000000):
  Calls Tryz.prog 59 #[v] w fun e w'=>∃u,e= .returned u/\zBa w' w.heap.size u (zAZ C fun j=>prQ (x j:Rat))/\Below w.heap.size w w':=by
 obtain⟨ao,S,Z,rfl,y,g3,g4,-⟩:=id h;obtain rfl:C=S:=by rw[<-y,zO]
 have N:=xgv h;clear h y;go_enter Tryz.func59,Tryz.ntmps59;go_upto_region 2 with(fail)
 refine zE ?_;intro r m;have c:Below w.heap.size w r:=by rw[m.out];exact(zB _ _).alloc (xgf _) _
 have d:zBa r w.heap.size (.slice (some ⟨w.heap.size,0,none⟩) 0 0) []:=by rw[m.out];exact zBa.made w (xgf _)
 clear m;go_wp2;go_loopw [3,4] (fun u q wr=>∃i:Nat,i<=C/\q= .int .i64 i/\zBa wr w.heap.size u (zAZ i fun j=>prQ (x j:Rat))/\Below w.heap.size w wr) (fun _ q _=>C-(intOf q).toNat)
 case atStart=>exact⟨0,by omega,rfl,d,c⟩
 clear c d;obtain⟨i,hi,rfl,d,c⟩:=hrel;by_cases A:i<C
 .obtain⟨M,L,rfl⟩:∃o k,u3= .slice o i k:=by
   obtain⟨o,k,e,-,-⟩:=d.shape;rw[zU]at e;exact⟨_,_,e⟩
  obtain⟨b,a7,a4,a,a3,a0,rfl,hb,f,T,U,B⟩:=(N.out.I c).cell (k:=i) (by rw[zO];exact A);rw[qU A]at f;injection f with f
  subst f;have P:=xgv B;clear B;go_wp2_with fail
  refine(zDB _ _ wr P.out).mono ?_;rintro e l ⟨rv,rfl,⟨J,s,H,F,K,t,I,G,rfl,D,E⟩,z⟩;have n:=(zB l.heap.size l).alloc (xgf _) (.cells #[.bool J,.slice s H F,.bool K,.slice t I G] tQ);have Q:=xgv (D.ext (lx n));have R:=xgv (E.ext (lx n));have O:=xgv d;have W:=(d.I z).I n;have c:=nx c z;have a1:=c.size;clear D E T U;go_wp2_with (at_builtin;go_loud (refine zTo rfl _ _ rfl w.heap.size (.slice M i L) (zAZ i fun j=>prQ (x j:Rat)) rfl W l.heap.size 1 _ _ _ _ _ _ _ _ (prQ (x i:Rat)) rfl (yJ _ _ _) Q.out R.out (by rw[zU];omega) (by simp;omega) ?_;intro v' w' Y p a2))
  have p:World.grownBy (l.alloc (.cells #[.bool J,.slice s H F,.bool K,.slice t I G] tQ)) w' (Value.ownBlock (.slice M i L)):=p;have V:Below w.heap.size w w':=(c.alloc c.size _).grown p (by simp;omega) (fun g X=>by have:=O.out.own g X;omega);go_roundw
  case rel=>exact⟨i+1,by omega,by simp,by rw[zEC];exact Y,V⟩
  case measure=>simp[intOf];omega
 obtain rfl:i=C:=by omega
 go_wp2;go_ret;exact⟨_,rfl,d,c⟩
end Go.Proofs.YtniiekppgdkknaaGreat
