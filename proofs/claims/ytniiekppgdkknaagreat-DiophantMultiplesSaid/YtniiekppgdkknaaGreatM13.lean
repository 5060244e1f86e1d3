/- Joined. -/
import Derived.Defers
import Derived.Recover
import Derived.ChangeKeysEq
import Derived.Laws.StructEq
import Derived.Test.YtniiekppgdkknaaGreatM10
import Derived.Test.YtniiekppgdkknaaGreatM11
set_option linter.unusedVariables false
set_option linter.unusedSimpArgs false
set_option linter.unusedSectionVars false
set_option maxHeartbeats 16000000
set_option maxRecDepth 100000
variable{ops:Array Go.Oper}{T:Array Go.Value}{M:List (List Int)}{S bs bs':List Nat}{B C R a b base c g i j k n o:Nat}{F f:Nat->Nat->Int}{t:Go.TypeId}{A A':Go.Value}{W w w':Go.World}
namespace Go.Proofs.YtniiekppgdkknaaGreat
open Go.RowKit
theorem zQC(w:World):
  CallsD Tryz.prog 137 #[] .returning w fun e c w'=>e= .returned (.tuple #[])/\c= .returning/\w'=w:=by
 refine callsD_of_wpS Tryz.func137 rfl fun a d b=>?_
 apply wpS_region;simp[wpOpsS,go_sem,recoverD,b,Tryz.ntmps137,bodyPostS,results,Tryz.results137];cases a;simp_all
theorem mkR(m:Int)(n:Nat)(b:m=n)(h:n<=1099511627776)(W:World):
  (Instr.makeSlice 27 (.int .i64 m) (.int .i64 m)).run Tryz.prog W= .ok (.slice (some ⟨W.heap.size,0,none⟩) n n) (W.alloc (.cells (madeCells (Value.slice none 0 0).cells (n*1)) tR)):=by
 subst b;obtain⟨f,a,c,d,e⟩:=info_parts zCt;have:=zC3 (P:=Tryz.prog) 27 tR f _ Tryz.underlying27 a c .i64 .i64 n n (xgf _) (by rw[e];omega) oM W;rw[this,d]
def zAz(n C:Nat)(bs:List Nat):Array Value:=(zA3 C bs++List.replicate (n-bs.length) (Value.slice none 0 0)).toArray
theorem zFk(n C:Nat):madeCells #[Value.slice none 0 0] n=zAz n C []:=by
 apply zDm;simp[madeCells,zAz,zA3];intro i a b;simp[madeCells,zAz,zA3,Nat.mod_one,Value.cells]
theorem zCz(h:bs.length<=n):(zAz n C bs).size=n:=by simp[zAz,zA3];omega
theorem zHK(h:bs.length<n):(zAz n C bs).setIfInBounds bs.length (slq b C C)=zAz n C (bs++ [b]):=by
 apply zDm;simp[zAz,zA3];omega;intro i a k;have l:i<n:=by simpa[zCz (C:=C) (Nat.le_of_lt h)]using a
 by_cases e:i=bs.length
 .subst e
  simp[zAz,zA3]
 have c:bs.length≠i:=fun g=>e g.symm
 rw[Array.getElem_setIfInBounds_ne (by simpa using a) c];rcases zJ i bs.length with hl|hl
 simp[zAz,zA3,hl,List.getElem_append,Nat.lt_succ_of_lt hl];have d:¬ i<bs.length:=oM;have f:¬ i<bs.length+1:=oM;obtain⟨p,j⟩:∃p,i-bs.length=p+1:=⟨i-bs.length-1,oM⟩;simp[zAz,zA3,List.getElem_append,d,f,j]
theorem zNJ(R C:Nat)(w:World)(hR:R<=1000000)(hC:C<=1000000):
  CPq 104 #[.int .i64 R,.int .i64 C] w (zDW w R C (zCn R C)):=by
 have a0:∀(t:Fn) (first s:Array Value) (w:World),(Instr.makeFunc t first s).run Tryz.prog w= .ok (.func t first s) w:=fun _ _ _ _=>rfl
 have S:=fun W=>mkR (R:Int) R rfl oM W
 have A:=fun W=>mkI (C:Int) C rfl oM W
 go_enter_defers Tryz.func104,Tryz.ntmps104;go_upto_region 4 with(fail)
 refine zE ?_;intro V y;obtain⟨M,d,c,a1⟩:=jW y;rw[zFk R C]at c;clear y S;go_wp2;go_loopw [15] (fun p wr=>∃(k:Nat) (bs:List Nat),k<=R/\p= .int .i64 k/\bs.length=k/\bs.Nodup/\(∀b∈bs,w.heap.size+1<b/\yY wr b (qQ C (fun _=>0)))/\BWq w wr/\Blk wr w.heap.size 29 #[.int .i64 0,.int .i64 0,.slice none 0 0]/\Blk wr (w.heap.size+1) tR (zAz R C bs)) (fun p _=>R-(intOf p).toNat)
 case atStart=>exact⟨0,[],oM,rfl,rfl,by simp,by simp,M,d,c⟩
 obtain⟨k,bs,hk,rfl,a,B,E,m,d,c⟩:=hrel;have a2:=m.size;have h:=xgv (And.intro B E);clear B E;by_cases P:k<R
 .have A:=A wr
  have lA:=c.lt;have lr:=d.lt;have q:Blk (wr.alloc (.cells (zeroCells C) tI)) (w.heap.size+1) tR (zAz R C bs):=c.I ((zB _ _).alloc (xgf _) _);have Y:=q.frozen k;obtain⟨u,Z⟩:∃u,(wr.alloc (.cells (zeroCells C) tI)).cell? ⟨w.heap.size+1,k,none⟩=some u:=by
   rw[q.cell k];exact⟨_,Array.getElem?_eq_getElem (by rw[zCz oM];exact P)⟩
  go_wp2;go_roundw
  case rel=>
   have F:=c.set_ k (.slice (some ⟨wr.heap.size,0,none⟩) C C);rw[<-a,zHK oM,a]at F;have T:(wr.setCell ⟨w.heap.size+1,k,none⟩ (.slice (some ⟨wr.heap.size,0,none⟩) C C)).heap.size=wr.heap.size:=by simp[World.setCell]
   have U:=c.lext dE k (.slice (some ⟨wr.heap.size,0,none⟩) C C);have n:Below (wr.setCell ⟨w.heap.size+1,k,none⟩ (.slice (some ⟨wr.heap.size,0,none⟩) C C)).heap.size (wr.setCell ⟨w.heap.size+1,k,none⟩ (.slice (some ⟨wr.heap.size,0,none⟩) C C)) ((wr.setCell ⟨w.heap.size+1,k,none⟩ (.slice (some ⟨wr.heap.size,0,none⟩) C C)).alloc (.cells (zeroCells C) tI)):=(zB _ _).alloc (xgf _) _;refine⟨k+1,bs++ [wr.heap.size],oM,by simp,by simp[a],?_,?_,(yM m oM _ _).alloc oM _,?_,F.I n⟩
   .rw[yI]
    refine⟨h.out.1,by simp,fun x o a4 G=>?_⟩;simp at G;subst G;have:=(h.out.2 x o).2.lt;omega
   .intro b N
    rcases List.mem_append.1 N with g|g
    .obtain⟨j,K⟩:=h.out.2 b g
     exact⟨j,(K.old (yO _ _ _ _ _ oM) U).I n⟩
    simp at g;subst g;refine⟨oM,?_⟩;have v:=zGS (wr.setCell ⟨w.heap.size+1,k,none⟩ (.slice (some ⟨wr.heap.size,0,none⟩) C C)) C;have L:List.replicate C (0:Int)=qQ C (fun _=>0):=by
     apply qI;simp[qQ];intro i g j;simp[qQ]
    rw[L,T]at v;exact v
   exact Blk.I (Blk.far d oM _ _) n
  case measure=>exact meq
 obtain rfl:k=R:=oM;have X:=d.three;have H:List.replicate C (0:Int)=qQ C (fun _=>0):=by
  apply qI;simp[qQ];intro i g j;simp[qQ]
 have J:=xgv H;have D:(zAz k C bs).toList=zA3 C bs:=by simp[zAz,a]
 have I:=xgv D;clear H D;go_wp2;refine leaves_cons (f:=137) (args:=#[]) sI (by simp[go_sem]) ?_;refine(zQC _).mono ?_;rintro e u' a3 ⟨rfl,rfl,rfl⟩;have o:=d.lext3 dE (.int .i64 k) (.int .i64 C) (.slice (some ⟨w.heap.size+1,0,none⟩) k k);refine⟨_,results_cell_row rfl _ _ w.heap.size _ _ _ _ rfl (d.put3 _ _ _) Tryz.underlying29 rfl (by rw[zEV];rfl),_,bs,rfl,⟨a,_,rfl,?_⟩,yM (yM (yM m oM 0 _) oM 1 _) oM 2 _⟩;refine⟨⟨by simp[zA3],.inr ⟨w.heap.size+1,k,zAz k C bs,by rw[a],oM,(zBS _ _ _ _ _ _ oM).trans c,oM,by simp[maxLen];omega,by rw[zCz oM];omega,?_⟩⟩,by simp[zCn,a],?_,h.out.1,oM⟩;rw[I.out,a,zAp,jS (by simp[zA3,a])];intro i b r z l;have Q:=xgd z;obtain⟨g,j⟩:=h.out.2 b Q;have O:i<k:=by have:=(xge.1 z).1;omega
 obtain rfl:r=List.replicate C 0:=by
  unfold zCn at l;rw[List.getElem?_replicate,zC O]at l;injection l with l
  exact l.symm
 refine⟨oM,by simp,?_⟩;rw[J.out];exact j.old (zBS _ _ _ _ _ _ oM) o
theorem zJ2(n:Nat)(w:World)(C:n<=1000000):CPq 67 #[niq n] w (zDW w n n (yV n n idf)):=by
 go_enter Tryz.func67,Tryz.ntmps67;go_upto_region 1 with(fail)
 refine zE ?_;intro u y;obtain⟨x,d,a0⟩:=qL y;go_wp2_with fail
 refine(zNJ n n u C C).mono ?_;rintro e S ⟨a3,bs,rfl,⟨O,T,rfl,c⟩,q⟩;obtain⟨J,on,I,rfl,E,-,-,-⟩:=id c.rows;obtain rfl:n=on:=by rw[<-E];simp[zCn]
 clear E;have P:=c.lts;go_upto_region 2 with(fail)
 refine zE ?_;intro W z;obtain⟨p,f,a1⟩:=qL z;have d:=(d.I q).I p;have c:=c.I p;have H:zCn n n=yV n n (zTM 0):=by rw[zFW];exact zAE fun i _ j _=>by unfold zTM;rw[zA oM]
 rw[H]at c;have L:=nx (nx x q) p;have R:=x.size;have q2:=q.size;have v:=f.three;clear z y H;go_wp2;clear v;go_loopw [11] (fun t wr=>∃i:Nat,i<=n/\t=niq i/\BWq w wr/\Blk wr w.heap.size 29 #[niq 0,niq 0,.slice none 0 0]/\Blk wr S.heap.size 29 #[niq n,niq n,.slice J n I]/\yH wr u.heap.size (.slice J n I) n bs (yV n n (zTM i))) (fun t _=>n-(intOf t).toNat)
 case atStart=>exact⟨0,oM,rfl,L,d,f,c⟩
 obtain⟨i,hi,rfl,B,d,f,c⟩:=hrel;have v:=f.three;by_cases o:i<n
 .obtain⟨g,K,rfl,Z,r,X,o1,Q⟩:=c.at_ (i:=i) oM
  clear Q;have a2:=f.lt;go_upto_region 5 with(fail)
  refine yD 8 [pcI 6 (1)] ?_;refine sRd ?_;refine sRc (fun wS hI U M=>by go_simp;exact ck M (zDt 1 _ oM oM)) (fun a4 _=>?_);refine sRd ?_;refine sRe ?_;intro w9 m A;obtain⟨pn,pa,pl,pc,px,rfl,F⟩:=id A;have V:=xgw F;clear F;have D:=c.I m;obtain⟨sn,sa,sl,sc,z1,z2,z3,z4,-⟩:=D.cellAt r o;have Y:=P i K r;have G:=D.set r o A;go_wp2;go_roundw
  case rel=>
   have s:zQn (yV n n (zTM i)) i i 1=yV n n (zTM (i+1)):=by
    rw[zFC _ o o];exact zAE fun a _ b _=>by
     unfold zTM;by_cases h:a=i/\b=i
     .rw[zC h,zC oM]
     rw[zA h];by_cases l:a=b/\a<i
     .rw[zC l,zC oM]
     rw[zA l,zA oM]
   rw[s]at G;exact⟨i+1,oM,by simp,yM (yM (nx B m) oM _ _) oM _ _,(yG _ _ _ _ _ _ _ oM).trans (d.I m),(yG _ _ _ _ _ _ _ oM).trans (f.I m),G.1⟩
  case measure=>exact meq
 obtain rfl:i=n:=oM;have s:yV i i (zTM i)=yV i i idf:=zAE fun a N b _=>by
  unfold zTM idf;by_cases h:a=b
  .rw[zC ⟨h,N⟩,zC h]
  rw[zA (fun l=>h l.1),zA h]
 rw[s]at c;have r1:=d.three;go_wp2;refine zAy rfl rfl rfl (d.put3 _ _ _) ⟨_,bs,rfl,⟨O,_,rfl,?_⟩,yM (yM (yM B oM 0 _) oM 1 _) oM 2 _⟩;exact(c.keep (fun k hk=>zBS _ _ k _ _ _ oM) (d.lext3 dE _ _ _)).mono R
def zO2(f:Nat->Nat->Int)(i j:Nat):Nat->Nat->Int:=fun a b=>if b<i∨(b=i/\a<j)then f a b else 0
theorem zOr(R C:Nat)(f:Nat->Nat->Int):zCn R C=yV R C (zO2 f 0 0):=by
 rw[zFW];exact zAE fun i _ j _=>by unfold zO2;rw[zA oM]
theorem zS0:yV R C (zO2 f i R)=yV R C (zO2 f (i+1) 0):=
 zAE fun a c b d=>by
  unfold zO2;by_cases h:b<i∨(b=i/\a<R)
  .rw[zC h,zC oM]
  rw[zA h,zA oM]
theorem zSz:yV R C (zO2 f C 0)=yV R C f:=
 zAE fun a c b d=>by unfold zO2;rw[zC oM]
theorem zQ5(d:i<C)(e:j<R):zQn (yV R C (zO2 f i j)) j i (f j i)=yV R C (zO2 f i (j+1)):=by
 rw[zFC _ e d];exact zAE fun a _ b _=>by
  unfold zO2;by_cases h:a=j/\b=i
  .obtain⟨rfl,rfl⟩:=h
   rw[zC ⟨rfl,rfl⟩,zC oM]
  rw[zA h];by_cases c:b<i∨(b=i/\a<j)
  .rw[zC c,zC oM]
  rw[zA c,zA oM]
theorem zFi(v:Value)(R C:Nat)(M:List (List Int))(w:World)(h:zAo w v R C M)(hF:zBe R C M)(hR:R<=1000000)(hC:C<=1000000)(V:∀r∈M,∀z∈r,Sm z):
  CPq 71 #[v] w (zDW w C R (yV C R (fun a b=>ent M b a))):=by
 have h0:=h;obtain⟨A,rfl,h⟩:=h;obtain⟨ao,n,b9,rfl,G,e3,e4,-⟩:=id h;have HX:=xgw G;have HS:=xgv V;have HF:=xgv hF;obtain rfl:n=R:=by rw[<-G,hF.1]
 have a0:decide (zAq n C M)=true:=zT hF.valid;obtain⟨f,J⟩:∃f:Nat->Nat->Int,(fun a b=>ent M b a)=f:=⟨_,rfl⟩;rw[J];have a1:∀i j,f i j=ent M j i:=fun i j=>by rw[<-J]
 have a7:=xgv a1;clear J a1 G V hF;go_enter Tryz.func71,Tryz.ntmps71;go_upto_region 1 with(fail)
 refine zE ?_;intro W0 W;obtain⟨H,o,e,c9⟩:=jW W;have p:=o.three;clear W;go_wp2_with fail
 refine(zBM _ n C M W0 (h0.I H)).mono ?_;rintro a8 T ⟨rfl,u⟩;rw[a0];have o:=o.I u;have e:=e.I u;clear p a0;have p:=o.three;go_wp2_with fail
 refine(zNJ C n T hC hR).mono ?_;rintro a8 w2 ⟨e0,bs,rfl,⟨a9,A2,rfl,d⟩,x⟩;obtain⟨E,on,D,rfl,a4,-,-,-⟩:=id d.rows;obtain rfl:C=on:=by rw[<-a4];simp[zCn]
 clear a4;have b2:=d.lts;have t:=nx H u;have d3:=t.size;have c0:=H.size;have c2:=u.size;clear p;go_upto_region 4 with(fail)
 refine zE ?_;intro W3 X;obtain⟨s,l,d0⟩:=qL X;have o:=(o.I x).I s;have e:=(e.I x).I s;have d:=d.I s;rw[zOr C n f]at d;have t:=nx (nx t x) s;have q2:=x.size;have p:=o.three;clear X;go_wp2;clear p;go_loopw [20] (fun P wr=>∃i:Nat,i<=n/\P=niq i/\BWq w wr∧
  Blk wr (w.heap.size+1) 29 #[niq 0,niq 0,.slice none 0 0]/\Blk wr w2.heap.size 29 #[niq C,niq n,.slice E C D]/\yH wr T.heap.size (.slice E C D) n bs (yV C n (zO2 f i 0))) (fun P _=>n-(intOf P).toNat)
 case atStart=>exact⟨0,oM,rfl,t,e,l,d⟩
 obtain⟨i,hi,rfl,m,e,l,d⟩:=hrel;by_cases B:i<n
 .obtain⟨b,ra,rn,rc,zs,rfl,c4,L,S,hv⟩:=h.row (k:=i) (by rw[HX.out];exact B)
  have a6:=HF.out.2 zs (xgd L);have b4:=hv.len;obtain rfl:C=rn:=oM;have F:=xgv (And.intro L a6);have S:=qK S m;obtain⟨b5,d4,d5⟩:=b4;clear L a6 b5;go_wp2;clear S;go_loopw [27] (fun Q wt=>∃j:Nat,j<=C/\Q=niq j/\BWq w wt∧
   Blk wt (w.heap.size+1) 29 #[niq 0,niq 0,.slice none 0 0]/\Blk wt w2.heap.size 29 #[niq C,niq n,.slice E C D]/\yH wt T.heap.size (.slice E C D) n bs (yV C n (zO2 f i j))) (fun Q _=>C-(intOf Q).toNat)
  case atStart=>exact⟨0,oM,rfl,m,e,l,d⟩
  rename World=>wt
  obtain⟨j,hj,rfl,m,e,l,d⟩:=hrel;by_cases a2:j<C
  .obtain⟨b',z,d9,a,d6,c,rfl,c3,N,q1,b7,O⟩:=(hv.I m).cell (k:=j) (by rw[F.out.2];exact a2)
   have b0:=xgw ((a7.out j i).trans (zDL F.out.1 N));have SZ:qS (Sm z):=⟨HS.out _ (xgd F.out.1) _ (xgd N)⟩;clear N;have d7:=e.lt;have b6:=l.lt;have c8:=m.size;go_upto_region 10 with(fail)
   refine zE ?_;intro W6 Y;obtain⟨q,U,d2⟩:=qL Y;have d1:=U.two;have e:=e.I q;have l:=l.I q;have d:=d.I q;have O:=O.ext (lx q);have m:=nx m q;clear q1 b7 Y;obtain⟨g,bo,rfl,hg,I,c5,o1,b3⟩:=d.at_ (i:=j) oM;have f1:=l.three;clear b3;have b6:=l.lt;have d8:=U.lt;refine yD 9 [pcI 7 (z)] ?_;refine sRd ?_;refine sRc (fun wS hI Gk hG=>by go_simp;exact ck hG (zUd _ z _ (O.ext hI.lext) SZ.out)) (fun e1 _=>?_);refine sRd ?_;refine sRe ?_;intro w9 y Z;obtain⟨pn,pa,pl,pc,px,rfl,a5⟩:=id Z;have b8:=xgw a5;clear a5;have a3:=d.I y;obtain⟨sn,sa,sl,sc,z1,z2,z3,z4,-⟩:=a3.cellAt I B;have c7:=b2 j bo I;have K:=a3.set I B Z;have c6:=K.2.2;go_wp2;go_roundw
   case rel=>
    have hq:z=f j i:=b0.out.symm;rw[hq,zQ5 B a2]at K;exact⟨j+1,oM,by simp,yM (yM (nx m y) oM _ _) oM _ _,(yG _ _ _ _ _ _ _ oM).trans (e.I y),(yG _ _ _ _ _ _ _ oM).trans (l.I y),K.1⟩
   case measure=>exact meq
  obtain rfl:j=C:=oM;rw[zS0]at d;go_wp2;go_roundw
  case rel=>exact⟨i+1,oM,by simp,m,e,l,d⟩
  case measure=>exact meq
 obtain rfl:i=n:=oM;rw[zSz]at d;have f1:=l.three;have r1:=e.three;go_wp2;refine zAy rfl rfl rfl (e.put3 _ _ _) ⟨_,bs,rfl,⟨a9,_,rfl,?_⟩,yM (yM (yM m oM 0 _) oM 1 _) oM 2 _⟩;exact(d.keep (fun k hk=>zBS _ _ k _ _ _ oM) (e.lext3 dE _ _ _)).mono oM
def Zn(A:Value)(bs:List Nat)(b:Nat):Prop:=b∈bs∨A.ownBlock=some b
def Ap(A:Value)(bs:List Nat)(A':Value)(bs':List Nat):Prop:=∀b,Zn A bs b->¬ Zn A' bs' b
theorem Ap.far(h:Ap A bs A' bs'):Far bs bs':=fun b a c=>h b (.inl a) (.inl c)
theorem Ap.own(h:Ap A bs A' bs'):∀g,A.ownBlock=some g->A'.ownBlock≠some g:=fun g a b=>h g (.inr a) (.inr b)
theorem Wri.zlt(h:Wri w A R C bs F)(hb:Zn A bs b):b<w.heap.size:=by
 rcases hb with hb|hb
 exact(h.blk hb).elim fun r c=>c.lt
 rcases(yH.own h).2 with⟨rfl,-⟩|⟨g,d,e,rfl,-,a,-⟩
 cases hb;simp only[Value.ownBlock,Option.some.injEq]at hb;subst hb;exact(Array.getElem?_eq_some_iff.1 a).1
theorem Wri.keepZ{Z:Nat->Prop}(h:Wri w A R C bs F)(a:jB Z w w')(e:∀b,Zn A bs b->¬ Z b):Wri w' A R C bs F:=
 yH.same h (fun b c=>a.old b (h.zlt (.inl c)) (e b (.inl c))) (fun g d=>a.old g (h.zlt (.inr d)) (e g (.inr d))) a.lext
theorem Wri.rown{d a:Nat}{c:Nat->Nat->Int}(h:Wri w A R C bs F)(f:Wri w A' d a bs' c)(g:b∈bs):A'.ownBlock≠some b:=by
 intro e;obtain⟨r,i⟩:=h.blk g;exact zGO (yH.own f) i e.symm
structure BSd(B:Nat):Prop where
 smd:∀z:Int,z.natAbs<B->Smd z
theorem BSd.bsm(h:BSd B):BSm B:=⟨fun z a=>(h.smd z a).sm⟩
def zWC(B C:Nat)(F:Nat->Nat->Int)(i j:Nat)(m0 m1 m2 m3:Int):Prop:=
 m0.natAbs<B/\m1.natAbs<B/\m2.natAbs<B/\m3.natAbs<B/\∀t,t<C->(F i t).natAbs<B/\(F j t).natAbs<B/\(m0*F i t).natAbs<B/\(m1*F j t).natAbs<B/\(m2*F i t).natAbs<B/\(m3*F j t).natAbs<B
structure zXB(B C Cu Cw:Nat)(z:W5)(i j:Nat):Prop where
 sz:(z.s i i).natAbs<B/\(z.s j j).natAbs<B
 g0:Int.gcd (z.s i i) (z.s j j)≠0
 all:∀g u v s t:Int,g=((Int.gcd (z.s i i) (z.s j j):Nat):Int)->u=z.s i i/g->v=z.s j j/g->Bez (z.s i i) (z.s j j) s t->
  (z.s i i*v).natAbs<B/\(t*v).natAbs<B/\zWC B Cu z.u i j s t (-v) u/\zWC B Cu z.v i j u v (-t) s/\zWC B Cw z.w i j 1 1 (-(t*v)) (1-t*v)/\zWC B Cw z.x i j (1-t*v) (t*v) (-1) 1
section
variable {P:Program} {ops:Array Oper} {Q:Exit->Act->World->Prop}
def zHU(ops:Array Oper):Nat->Nat->Nat->Bool
 |0,j,k=>j==k
 |f+1,j,k=>j==k||((ops[j]?).map (fun o=>o.after.any fun e=>Region.binds .any e && zHU ops f e.on k)).getD false
theorem zDC{L:Array Bool}(d:zCH ops L):∀{f j k:Nat},zHU ops f j k=true->L[j]?=some true->L[k]?=some true:=by
 intro f;induction f with
 |zero=>
  intro j k h a;unfold zHU at h;rw[<-(beq_iff_eq.1 h)];exact a
 | succ f i=>
  intro j k h a;unfold zHU at h;rw[Bool.or_eq_true]at h;rcases h with h|h
  .rw[<-(beq_iff_eq.1 h)]
   exact a
  cases c:ops[j]? with
  |none=>rw[c]at h;simp at h
  |some o=>
   rw[c]at h;simp only[Option.map_some,Option.getD_some]at h;rw[<-zAe,zAN]at h;obtain⟨e,g,b⟩:=h;rw[zAf]at b;refine i b.2 (d j o c a e.on ?_);unfold zC6;rw[<-zAe,zAN];exact⟨e,g,by simp[b.1]⟩
variable {W:World} {n0:Nat} {T0:Array Value} {tB:TypeId} {vs:List VS} {bs:List BS} {es:List ES} {L:Array Bool} {T:Array Value} {w w':World}
theorem RI.skip(h:RI W n0 T0 tB vs bs es L T w)(n:∀s∈vs,s.op≠k)(f:∀s∈bs,s.al≠k/\s.st≠k)(o:∀s∈es,s.st≠k):RI W n0 T0 tB vs bs es (L.setIfInBounds k true) T w:=
 ⟨h.wf,h.tb,h.lv,h.lb,h.le,h.eb,h.ed,h.size,h.keep,h.bel0,h.old,h.lext,h.ge,
  fun s a i=>zAv (h.sto s a (qR i (zL (f s a).2))),
  fun s a i=>h.val s a (qR i (zL (n s a))),
  fun s a i=>by
   obtain⟨b,x,y,d,e,j,m⟩:=h.box s a (qR i (zL (f s a).1));exact⟨b,x,y,d,e,j,fun g=>m (qR g (zL (f s a).2))⟩,
  fun s a t l p q r b c d e=>h.far s a t l p (qR q (zL (f s a).1)) (qR r (zL (f t l).1)) b c d e,
  fun s a=>by
   obtain⟨⟨x,y,d,e⟩,j⟩:=h.ex s a;exact⟨⟨x,y,d,fun g=>e (qR g (zL (o s a)))⟩,fun g=>j (zIV g)⟩⟩
theorem zH2(h:w.heap[b]?=W.heap[b]?):w.frozen? ⟨b,o,none⟩=W.frozen? ⟨b,o,none⟩:=by
 simp only[World.frozen?,h]
theorem zKZ(h:w.heap[b]?=W.heap[b]?):w.cell? ⟨b,o,none⟩=W.cell? ⟨b,o,none⟩:=by
 simp only[World.cell?,h]
def zTG(T:Array Value)(sl k:Nat):Value:=match T[sl]? with
 |some (.agg cs)=>cs.getD k undef
 |_=>undef
def zW2(sl b o:Nat):Array Value->World->World:=fun T w=>(w.setCell ⟨b,o,none⟩ (zTG T sl 0)).setCell ⟨b,o+1,none⟩ (zTG T sl 1)
structure RIS(W:World)(n0:Nat)(T0:Array Value)(tB:TypeId)(vs:List VS)(bs:List BS)(es:List ES)(k1 k2:Nat)(p1:World->World)(p2:Array Value->World->World)(L:Array Bool)(T:Array Value)(w:World):Prop where
 ex:∃w0,RI W n0 T0 tB vs bs es L T w0/\(L[k1]?≠some true->w=w0)/\(L[k1]?=some true->L[k2]?≠some true->w=p1 w0)/\(L[k2]?=some true->w=p2 T (p1 w0))
variable {n k1 k2:Nat} {p1:World->World} {p2:Array Value->World->World}
theorem RIS.start(h:RI W n0 T0 tB vs bs es (Array.replicate n false) T w):RIS W n0 T0 tB vs bs es k1 k2 p1 p2 (Array.replicate n false) T w:=by
 have b:∀k:Nat,(Array.replicate n false)[k]?≠some true:=by
  intro k h;rw[Array.getElem?_replicate]at h;split at h<;>simp at h
 exact⟨w,h,fun _=>rfl,fun a=>absurd a (b _),fun a=>absurd a (b _)⟩
theorem zV.lift{d:List Deferred}{o:Oper}(m:zHU ops 9 k1 k=true)(n:zHU ops 9 k2 k1=true)(f:k≠k1/\k≠k2)(h:zV P ops Q d (RI W n0 T0 tB vs bs es) k o):zV P ops Q d (RIS W n0 T0 tB vs bs es k1 k2 p1 p2) k o:=by
 intro L T w e hd b hI K hK;obtain⟨s,p,i,q,r⟩:=hI.ex;have c:L[k1]?≠some true:=fun a=>by
  have:=zDC b m a;rw[e]at this;cases this
 have l:L[k2]?≠some true:=fun a=>c (zDC b n a)
 obtain rfl:=i c;exact h L T w e @hd b p K (fun g w' j=>hK g w' ⟨w',j,fun _=>rfl,fun a=>absurd (qR a f.1) c,fun a=>absurd (qR a f.2) l⟩)
theorem RIS.value{v:Value}(h:RIS W n0 T0 tB vs bs es k1 k2 p1 p2 L T w)(i:zCH ops L)(m:zHU ops 9 k2 k=true)(f:L[k]?=some false)(b:k≠k1/\k≠k2)(s:VS)(o:s∈vs)(p:s.op=k)(g:∀w,s.P w v):
  RIS W n0 T0 tB vs bs es k1 k2 p1 p2 (L.setIfInBounds k true) (T.setIfInBounds s.slot v) w:=by
 obtain⟨c,n,d,e,q⟩:=h.ex;have l:L[k2]?≠some true:=fun a=>by
  have:=zDC i m a;rw[f]at this;cases this
 exact⟨c,n.value s o p (g c),fun a=>d (zIV a),fun a j=>e (qR a b.1) (zIV j),fun a=>absurd (qR a b.2) l⟩
theorem RIS.val{s:VS}(h:RIS W n0 T0 tB vs bs es k1 k2 p1 p2 L T w)(f:s∈vs)(d:L[s.op]?=some true)(c:∀w w' v,s.P w v->s.P w' v):∃v,T[s.slot]?=some v/\∀w,s.P w v:=by
 obtain⟨g,e,-⟩:=h.ex;obtain⟨v,a,b⟩:=e.val s f d;exact⟨v,a,fun w=>c _ _ _ b⟩
theorem RIS.keep(h:RIS W n0 T0 tB vs bs es k1 k2 p1 p2 L T w)(a:∀s∈vs,s.slot≠j)(b:∀s∈bs,s.slot≠j):T[j]?=T0[j]?:=by
 obtain⟨d,c,-⟩:=h.ex;exact c.keep j a b
theorem RIS.first(h:RIS W n0 T0 tB vs bs es k1 k2 p1 p2 L T w)(j:zCH ops L)(m:zHU ops 9 k2 k1=true)(b:L[k1]?=some false)(l:k1≠k2)(f:∀s∈vs,s.op≠k1)(g:∀s∈bs,s.al≠k1/\s.st≠k1)(i:∀s∈es,s.st≠k1):
  RI W n0 T0 tB vs bs es L T w/\RIS W n0 T0 tB vs bs es k1 k2 p1 p2 (L.setIfInBounds k1 true) T (p1 w):=by
 obtain⟨o,d,e,p,q⟩:=h.ex;have c:L[k1]?≠some true:=by rw[b];simp
 have k:L[k2]?≠some true:=fun a=>c (zDC j m a)
 have n:w=o:=e c;subst n;refine⟨d,⟨w,d.skip f g i,fun a=>absurd (Array.getElem?_setIfInBounds_self_of_lt (Array.getElem?_eq_some_iff.1 b).1) a,fun _ _=>rfl,fun a=>absurd (qR a l) k⟩⟩
theorem RIS.second(h:RIS W n0 T0 tB vs bs es k1 k2 p1 p2 L T w)(d:L[k1]?=some true)(c:L[k2]?=some false)(g:∀s∈vs,s.op≠k2)(i:∀s∈bs,s.al≠k2/\s.st≠k2)(j:∀s∈es,s.st≠k2):
  ∃a,w=p1 a/\RI W n0 T0 tB vs bs es L T a/\RIS W n0 T0 tB vs bs es k1 k2 p1 p2 (L.setIfInBounds k2 true) T (p2 T (p1 a)):=by
 obtain⟨a,e,l,f,m⟩:=h.ex;have k:L[k2]?≠some true:=by rw[c];simp
 refine⟨a,f d k,e,⟨a,e.skip g i j,fun b=>absurd (zAv d) b,fun _ b=>absurd (Array.getElem?_setIfInBounds_self_of_lt (Array.getElem?_eq_some_iff.1 c).1) b,fun _=>rfl⟩⟩
theorem RIS.fin(h:RIS W n0 T0 tB vs bs es k1 k2 p1 p2 (Array.replicate n true) T w)(c:k2<n):∃a,RI W n0 T0 tB vs bs es (Array.replicate n true) T a/\w=p2 T (p1 a):=by
 obtain⟨a,d,e,f,b⟩:=h.ex;exact⟨a,d,b (by simp[c])⟩
end
structure RA(S:List Nat)(k:Nat)(W:World)(T0:Array Value)(vs:List VS)(L:Array Bool)(T:Array Value)(w:World):Prop where
 wf:zFp T0.size vs=true
 lv:∀s∈vs,zAA s.P
 size:T.size=T0.size
 keep:∀j,(∀s∈vs,s.slot≠j)->T[j]?=T0[j]?
 onl:zA5 S W w
 bef:L[k]?=some false->BWq W w
 val:∀s∈vs,L[s.op]?=some true->∃v,T[s.slot]?=some v/\s.P w v
section
variable {S:List Nat} {p:Nat} {W:World} {T0:Array Value} {vs:List VS} {L:Array Bool} {T:Array Value} {w w':World}
theorem RA.start(a:zFp T0.size vs=true)(hv:∀s∈vs,zAA s.P){n:Nat}:RA S p W T0 vs (Array.replicate n false) T0 W.drew:=
 ⟨a,hv,rfl,fun _ _=>rfl,zA5.of S (dr _),fun _=>dr _,fun s _ h=>by
  rw[Array.getElem?_replicate]at h;split at h<;>simp at h⟩
abbrev zCK:=@RA.start
theorem RA.world(h:RA S p W T0 vs L T w)(a:BWq w w'):RA S p W T0 vs L T w':=
 ⟨h.wf,h.lv,h.size,h.keep,h.onl.trans (zA5.of S a),fun f=>nx (h.bef f) a,fun s b e=>by
  obtain⟨v,c,d⟩:=h.val s b e;exact⟨v,c,h.lv s b _ _ _ a d⟩⟩
theorem RA.value{v:Value}(h:RA S p W T0 vs L T w)(s:VS)(d:s∈vs)(m:s.op=k)(l:s.P w v):RA S p W T0 vs (L.setIfInBounds k true) (T.setIfInBounds s.slot v) w:=by
 subst m;have g:=h.wf;unfold zFp at g;simp only[Bool.and_eq_true,decide_eq_true_eq,List.all_eq_true]at g;obtain⟨⟨x,y⟩,z⟩:=g;have o:s.slot<T0.size:=z _ (List.mem_map.2 ⟨s,d,rfl⟩);refine⟨h.wf,h.lv,by simp[h.size],fun j c=>by rw[xgc (c s d)];exact h.keep j c,h.onl,fun b=>h.bef ?_,?_⟩
 .by_cases a:s.op=p
  .subst a
   rw[Array.getElem?_setIfInBounds]at b;split at b;split at b<;>cases b
   exact b
  rwa[xgc a]at b
 intro t f n;by_cases a:t=s
 .subst a
  exact⟨v,by rw[Array.getElem?_setIfInBounds_self_of_lt (by rw[h.size];exact o)],l⟩
 have q:t.op≠s.op:=fun e=>a (qV y f d e)
 have r:t.slot≠s.slot:=fun e=>a (qV x f d e)
 obtain⟨u,c,i⟩:=h.val t f (qR n (zL q));exact⟨u,by rw[xgc (zL r)];exact c,i⟩
theorem RA.turn{v:Value}(h:RA S p W T0 vs L T w)(s:VS)(c:s∈vs)(n:s.op=p)(l:p<L.size)(q:zA5 S w w')(r:∀t∈vs,t≠s->L[t.op]?=some true->∀v,t.P w v->t.P w' v)(m:s.P w' v):RA S p W T0 vs (L.setIfInBounds p true) (T.setIfInBounds s.slot v) w':=by
 subst n;have f:=h.wf;unfold zFp at f;simp only[Bool.and_eq_true,decide_eq_true_eq,List.all_eq_true]at f;obtain⟨⟨A,B⟩,C⟩:=f;have x:s.slot<T0.size:=C _ (List.mem_map.2 ⟨s,c,rfl⟩);refine⟨h.wf,h.lv,by simp[h.size],fun j a=>by rw[xgc (a s c)];exact h.keep j a,h.onl.trans q,fun i=>?_,?_⟩
 .rw[Array.getElem?_setIfInBounds_self_of_lt l]at i
  cases i
 intro t d o;by_cases b:t=s
 .subst b
  exact⟨v,by rw[Array.getElem?_setIfInBounds_self_of_lt (by rw[h.size];exact x)],m⟩
 have y:t.op≠s.op:=fun e=>b (qV B d c e)
 have z:t.slot≠s.slot:=fun e=>b (qV A d c e)
 have g:=qR o (zL y);obtain⟨u,a,k⟩:=h.val t d g;exact⟨u,by rw[xgc (zL z)];exact a,r t d b g u k⟩
theorem RA.v{s:VS}(h:RA S p W T0 vs L T w)(b:s∈vs)(a:L[s.op]?=some true):∃v,T[s.slot]?=some v/\s.P w v:=h.val s b a
theorem RA.y{v:Value}(h:RA S p W T0 vs L T w){s:VS}(c:s∈vs)(a:s.P w v)(b:s.op=k:=by rfl):RA S p W T0 vs (L.setIfInBounds k true) (T.setIfInBounds s.slot v) w:=h.value s c b a
theorem RA.cell{v:Value}(h:RA S p W T0 vs L T w)(a:b ∉ S)(c:b<W.heap.size)(hc:W.cell? ⟨b,o,none⟩=some v):w.cell? ⟨b,o,none⟩=some v:=by
 have:=h.onl.old b c a;unfold World.cell? at hc ⊢
 rw[this];exact hc
end
def RAS(S:List Nat)(p:Nat)(W:World)(T0:Array Value)(vs:List VS)(q:Nat)(st:Array Value->World->World)(L:Array Bool)(T:Array Value)(w:World):Prop:=
 ∃w0,RA S p W T0 vs L T w0/\(L[q]?≠some true->w=w0)/\(L[q]?=some true->w=st T w0)
section
variable {S:List Nat} {p:Nat} {W:World} {T0:Array Value} {vs:List VS} {L:Array Bool} {T:Array Value} {w w':World} {q:Nat} {st:Array Value->World->World}
theorem RAS.start{n:Nat}(h:RA S p W T0 vs (Array.replicate n false) T0 W.drew):RAS S p W T0 vs q st (Array.replicate n false) T0 W.drew:=
 ⟨_,h,fun _=>rfl,fun a=>by
  rw[Array.getElem?_replicate]at a;split at a<;>simp at a⟩
abbrev zBt:=@RAS.start
theorem RA.mark(h:RA S p W T0 vs L T w)(e:∀s∈vs,s.op≠q)(d:q≠p):RA S p W T0 vs (L.setIfInBounds q true) T w:=
 ⟨h.wf,h.lv,h.size,h.keep,h.onl,fun b=>h.bef (by rwa[xgc d]at b),fun s a c=>h.val s a (qR c (zL (e s a)))⟩
theorem zV.liftA{P:Program}{Q:Exit->Act->World->Prop}{b:List Deferred}{o:Oper}(m:zHU ops 5 q i=true)(l:i≠q)
  (h:zV P ops Q b (RA S p W T0 vs) i o):zV P ops Q b (RAS S p W T0 vs q st) i o:=by
 intro L T w c hd e hI K hK;obtain⟨r,j,k,n⟩:=hI;have d:L[q]?≠some true:=fun a=>by
  have:=zDC e m a;rw[c]at this;cases this
 obtain rfl:=k d;exact h L T w c @hd e j K (fun f w' g=>hK f w' ⟨w',g,fun _=>rfl,fun a=>absurd (qR a l) d⟩)
theorem RAS.pure{v:Value}(h:RAS S p W T0 vs q st L T w)(s:VS)(l:s∈vs)(g:s.op=k)(f:∀w,s.P w v)(j:k≠q)(m:∀w,st (T.setIfInBounds s.slot v) w=st T w):RAS S p W T0 vs q st (L.setIfInBounds k true) (T.setIfInBounds s.slot v) w:=by
 obtain⟨b,c,d,e⟩:=h;exact⟨b,c.value s l g (f b),fun i=>d fun a=>i (zAv a),fun a=>(e (qR a j)).trans (m b).symm⟩
theorem RAS.store(h:RA S p W T0 vs L T w)(a:L[q]?=some false)(d:∀s∈vs,s.op≠q)(c:q≠p)(e:w'=st T w):RAS S p W T0 vs q st (L.setIfInBounds q true) T w':=
 ⟨w,h.mark d c,fun b=>absurd (Array.getElem?_setIfInBounds_self_of_lt (Array.getElem?_eq_some_iff.1 a).1) b,fun _=>e⟩
abbrev zBu:=@RAS.store
theorem RAS.here(h:RAS S p W T0 vs q st L T w)(c:L[q]?=some false):RA S p W T0 vs L T w:=by
 obtain⟨d,a,b,-⟩:=h;obtain rfl:=b (by rw[c];simp);exact a
end
def put3(a b:Nat)(T:Array Value)(w:World):World:=
 match T[a]?,T[b]? with
 |some (.pointer (some ⟨g,0,none⟩)),some (.agg #[x,y,z])=>((w.setCell ⟨g,0,none⟩ x).setCell ⟨g,1,none⟩ y).setCell ⟨g,2,none⟩ z
 |_,_=>w
theorem zE4{x y z:Value}(c:T[a]?=some (.pointer (some ⟨g,0,none⟩)))(d:T[b]?=some (.agg #[x,y,z])):put3 a b T w=((w.setCell ⟨g,0,none⟩ x).setCell ⟨g,1,none⟩ y).setCell ⟨g,2,none⟩ z:=by
 unfold put3;rw[c,d];rfl
theorem zHf{v:Value}(d:c≠a)(e:c≠b):put3 a b (T.setIfInBounds c v) w=put3 a b T w:=by
 unfold put3;rw[xgc d,xgc e]
theorem zJD{v:Value}(a:w.grownBy w' v.ownBlock)(d:zBC w w'):zA5 v.ownBlock.toList w w':=
 ⟨(zB 0 w).grown a (zG _) (fun g _=>zG g),d,fun k b c=>a.block k b (fun e=>c (by rw[<-e];simp))⟩
theorem Below.only{c:World}(h:Below B c w)(a:zA5 S w w')(d:B<=c.heap.size)(e:∀b∈S,B<=b):Below B c w':=
 h.trans ⟨a.bel.os,a.bel.tape,a.bel.output,a.bel.size,fun k f=>a.old k (zI f (zF d h.size)) fun g=>absurd (e k g) (by omega)⟩
theorem Blk.only{cs:Array Value}(h:Blk w b t cs)(c:zA5 S w w')(a:b ∉ S):Blk w' b t cs:=(c.old b h.lt a).trans h

def okW(B R C Cu Cw:Nat)(z:W5):Prop:=okF B R C z.s/\okF B R Cu z.u/\okF B R Cu z.v/\okF B C Cw z.w/\okF B C Cw z.x
theorem yH.fresh(h:yH w base A C bs M)(a:Zn A bs b):base<=b:=by
 rcases a with a|a
 .obtain⟨k,c,e⟩:=yL a
  exact(h.row k b (M[k]'(by rw[h.len];exact c)) (by rw[xga c,e]) (xga _)).1
 rcases h.own.2 with⟨rfl,-⟩|⟨g,d,f,rfl,i,-⟩
 cases a;simp only[Value.ownBlock,Option.some.injEq]at a;omega
section
variable {w w':World} {base wb RS CS R C Cu Cw:Nat} {AS AU AV AW AX:Value} {bS bU bV bW bX:List Nat} {z:W5}
end
theorem Wri.shape(h:Wri w A R C bs F):∃o c,A= .slice o R c:=by
 obtain⟨e,b,d,rfl,a,-⟩:=id (yH.rows h);obtain rfl:R=b:=by rw[<-a];simp[yV]
 exact⟨_,_,rfl⟩

abbrev tBo:TypeId:=4
def zXp(n:Nat)(g:Nat->Bool):Array Value:=((List.range n).map fun i=>Value.bool (g i)).toArray
def zXb(g:Nat->Bool)(j:Nat):Nat->Bool:=fun t=>if t<j then g t else false
theorem zOY(n o:Value)(z k:Int)(j:Nat)(x y:Value)(w:World)(d:yA w n z)(b:∃p,yA w o p)(v:Blk w j tI #[x,y])(g:yA w (.agg #[x,y]) k)(l:Sm z)(m:Sm k):
  CPq 136 #[n,o,ptq j 0] w (zBk w (k*z)):=by
 obtain⟨V,D,T,H,xs,rfl,A⟩:=id d;obtain⟨p,b⟩:=b;obtain⟨W,E,U,I,ys,rfl,B⟩:=id b;obtain⟨S,P,R,Q,rfl,rfl⟩:=g.two;have q:=xgv l;have r:=xgv m;clear A B l m b;go_enter Tryz.func136,Tryz.ntmps136;go_upto_region 1 with(fail)
 refine zE ?_;intro s u;obtain⟨c,t,F,a,O⟩:=zBB u;have G:=t.two;obtain⟨J,K,L,M⟩:=(v.I c).two;go_wp2_with fail
 refine(zCD _ _ k z s (g.ext (lx c)).J (d.ext (lx c)).J r.out q.out).mono ?_;rintro e w1 ⟨a0,rfl,i,f⟩;obtain⟨Z,X,Y,pc,px,rfl,h⟩:=id i;have C:=xgw h;have a:=a.I f;have N:=a.two;clear h;go_wp2;exact yS rfl rfl rfl (a.put2 _ _) (i.ext (a.lext2 dE _ _)) (yM (yM (nx c f) oM 0 _) oM 1 _)
theorem zPP(F H:Value)(zs ys:List Int)(k:Int)(g n:Nat)(x y:Value)(w:World)(h:zAR w F zs)(l:zAR w H ys)(A:zs.length=n)(B:ys.length=n)(hn:n<=1000000)(X:Blk w g tI #[x,y])(Y:yA w (.agg #[x,y]) k)
  (r:∀z∈zs,Sm z) (E:Sm k):
  CPq 166 #[F,H,.func (.func 136) #[] #[ptq g 0]] w fun e w'=>
   e= .returned (slq w.heap.size n n)/\yY w' w.heap.size (qQ n (fun j=>k*zs.getD j 0))/\BWq w w':=by
 obtain⟨ao,n1,a8,rfl,R,e3,e4,-⟩:=id h;obtain⟨bo,n2,a7,rfl,S,f3,f4,-⟩:=id l;obtain rfl:n=n1:=oM;obtain rfl:n=n2:=oM;have a0:=fun W=>mkI (n:Int) n rfl oM W
 have L:=xgv A;have M:=xgv B;have N:=xgv r;have K:=xgv E;obtain⟨G,c⟩:∃G:Nat->Int,(fun j=>k*zs.getD j 0)=G:=⟨_,rfl⟩;rw[c];have J:qS (∀t,G t=k*zs.getD t 0):=⟨fun t=>by rw[<-c]⟩;clear A B R S c r;go_enter Tryz.func166,Tryz.ntmps166;go_upto_region 2 with(fail)
 refine zE ?_;intro P m;obtain⟨U,Q,b3⟩:=qL m;have a:yY P w.heap.size (qQ n (jD G (fun _=>0) 0)):=by
  have q:=zGS w n;have T:List.replicate n (0:Int)=qQ n (jD G (fun _=>0) 0):=by
   apply qI;simp[qQ];intro i h l;simp[qQ,jD]
  rw[T]at q;rw[m.out];exact q
 clear m a0 Q;go_wp2;go_loopw [14] (fun p wr=>∃j:Nat,j<=n/\p=niq j/\BWq w wr/\yY wr w.heap.size (qQ n (jD G (fun _=>0) j))) (fun p _=>n-(intOf p).toNat)
 case atStart=>exact⟨0,oM,rfl,U,a⟩
 obtain⟨j,hj,rfl,b,a⟩:=hrel;by_cases f:j<n
 .obtain⟨b1,d,s1,a1,l1,c1,rfl,a9,o,p1,p2,a3⟩:=(h.I b).cell (k:=j) (by rw[L.out];exact f)
  obtain⟨b2,I,E,a2,l2,c2,rfl,b0,a5,q1,q2,a4⟩:=(l.I b).cell (k:=j) (by rw[M.out];exact f);have V:qS (k*d=G j):=⟨by rw[J.out,zD2 o]⟩;have O:qS (Sm d):=⟨N.out _ (xgd o)⟩;have v:=X.I b;have Z:=Y.ext (lx b);have b4:=v.lt;clear o a5;have lA:=a.lt;go_upto_region 5 with(fail)
  refine yD 13 [pcI 11 (k*d)] ?_;refine sRd ?_;refine sRc (fun wS hI Gk c=>by go_simp;exact ck c (zOY _ _ d k g x y _ (a3.ext hI.lext) ⟨I,a4.ext hI.lext⟩ ((hI.old g oM sI).trans v) (Z.ext hI.lext) O.out K.out)) (fun b5 _=>?_);refine sRd ?_;refine sRe ?_;intro w9 u s;obtain⟨pn,pa,pl,pc,px,rfl,C⟩:=id s;have a6:=xgw C;have a:=a.I u;obtain⟨zs,za,zl,zc,d,I,z3,z4,-⟩:=a.cell (qU f);have D:=a.set (k:=j) (by rw[zO];exact f) s;rw[zHk V.out]at D;clear C p1 p2 q1 q2;go_wp2;go_roundw
  case rel=>exact⟨j+1,oM,by simp,yM (yM (nx b u) (xgf _) _ _) (xgf _) _ _,D.1⟩
  case measure=>exact meq
 obtain rfl:j=n:=oM;have hq:qQ j (jD G (fun _=>0) j)=qQ j G:=qZ fun t ht=>by unfold jD;rw[zC ht]
 rw[hq]at a;go_wp2;go_ret;exact⟨rfl,a,b⟩
abbrev tF:TypeId:=87
def zG9(n0 C:Nat)(zs:List Int):World->Value->Prop:=fun w v=>∃g,v=slq g C C/\n0<=g/\yY w g zs
theorem zN7(n0 C:Nat)(zs:List Int):zAA (zG9 n0 C zs):=fun _ _ _ e ⟨g,a,b,c⟩=>⟨g,a,b,c.I e⟩
theorem zPZ(i l:Value)(zs ys:List Int)(k:Int)(c b n:Nat)(x y:Value)(w:World)(d:zAR w i zs)(f:zAR w l ys)(u:zs.length=n)(A:ys.length=n)(B:n<=1000000)
  (r:Blk w c tF #[.func (.func 136) #[] #[ptq b 0]]) (s:Blk w b tI #[x,y]) (t:yA w (.agg #[x,y]) k) (g:∀z∈zs,Sm z) (C:Sm k):
  CPq 165 #[i,l,ptq c 0] w fun e w'=>∃v,e= .returned v/\zG9 w.heap.size n (qQ n (fun j=>k*zs.getD j 0)) w' v/\BWq w w':=by
 have H:=r.cell 0;have p:=xgv g;have o:=xgv C;obtain⟨G,a⟩:∃G:Nat->Int,(fun j=>k*zs.getD j 0)=G:=⟨_,rfl⟩;rw[a];have m:=xgv a;clear a g;obtain⟨D,J,I,rfl,-⟩:=id d;obtain⟨F,K,E,rfl,-⟩:=id f;go_enter Tryz.func165,Tryz.ntmps165;go_wp2_with fail
 refine(zPP _ _ zs ys k b n x y w d f u A B s t p.out o.out).mono ?_;rintro e L ⟨rfl,h,q⟩;rw[m.out]at h;go_wp2;go_ret;exact⟨_,rfl,⟨_,rfl,xgf _,h⟩,q⟩
theorem yH.ofPart(j:Blk w g tR (zAz n C bs))(a:bs.length=n)(l:bs.Nodup)(o:∀(t b:Nat),bs[t]?=some b->base<=b/\∃r:List Int,M[t]?=some r/\r.length=C/\yY w b r)
  (i:M.length=n) (k:base<=g) (q:C<=1000000) (s:n<=1000000):yH w base (slq g n n) C bs M:=by
 have m:(zAz n C bs).toList=zA3 C bs:=by simp[zAz,a]
 refine⟨⟨by simp[zA3],.inr ⟨g,n,zAz n C bs,by rw[a],k,j,oM,by simp[maxLen];omega,by rw[zCz oM];omega,?_⟩⟩,by rw[i,a],?_,l,oM⟩;rw[m,a,zAp,jS (by simp[zA3,a])];intro t b r p c;obtain⟨d,u,e,f,h⟩:=o t b p;rw[e]at c;injection c with c
 subst c;exact⟨d,f,h⟩
theorem zPQ(A:Value)(M:List (List Int))(R C:Nat)(k:Int)(B H:Nat)(x y:Value)(w:World)(h:zKP w A M)(hF:zBe R C M)(hR:R<=1000000)(L:C<=1000000)
  (hf:Blk w B tF #[.func (.func 136) #[] #[.pointer (some ⟨H,0,none⟩)]]) (hk:Blk w H tI #[x,y]) (a6:yA w (.agg #[x,y]) k) (O:∀r∈M,∀z∈r,Sm z) (Y:Sm k):
  CPq 164 #[A,A,.func (.func 165) #[] #[.pointer (some ⟨B,0,none⟩)]] w fun e w'=>
   e= .returned (.slice (some ⟨w.heap.size,0,none⟩) R R)/\(∃bs,bs.length=R/\yH w' w.heap.size (.slice (some ⟨w.heap.size,0,none⟩) R R) C bs (yV R C (fun i j=>k*ent M i j)))/\BWq w w':=by
 obtain⟨ao,n,b5,rfl,p,v,e4,-⟩:=id h;obtain rfl:R=n:=by rw[<-p,hF.1]
 have a8:=fun W=>mkR (R:Int) R rfl oM W
 have I:=xgv hF;have HS:=xgv O;have HK:=xgv Y;obtain⟨G,m⟩:∃G:Nat->Nat->Int,(fun i j=>k*ent M i j)=G:=⟨_,rfl⟩;rw[m];have HG:qS (∀i j,G i j=k*ent M i j):=⟨fun i j=>by rw[<-m]⟩;clear hF O Y m p;go_enter Tryz.func164,Tryz.ntmps164;go_upto_region 2 with(fail)
 refine zE ?_;intro W0 P;obtain⟨a1,c,b9⟩:=qL P;rw[zFk R C]at c;clear P a8;go_wp2;go_loopw [14] (fun F wr=>∃(i:Nat) (bs:List Nat),i<=R/\F= .int .i64 i/\bs.length=i/\BWq w wr/\Blk wr w.heap.size tR (zAz R C bs)/\qS (bs.Nodup/\∀t b,bs[t]?=some b->w.heap.size<b/\yY wr b (qQ C (G t)))) (fun F _=>R-(intOf F).toNat)
 case atStart=>exact⟨0,[],oM,rfl,rfl,a1,c,⟨⟨by simp,fun t b a=>by simp at a⟩⟩⟩
 obtain⟨i,bs,hi,rfl,l,d,c,N⟩:=hrel;by_cases S:i<R
 .obtain⟨b1,o1,ra,rn,rc,o,rfl,b6,s,p1,q⟩:=(h.I d).row (k:=i) (by rw[I.out.1];exact S)
  have X:=I.out.2 o (xgd s);have a9:qS (qQ C (fun j=>k*o.getD j 0)=qQ C (G i)):=⟨qZ fun j hj=>by rw[HG.out];unfold ent;rw[zD2 s]⟩;have SZ:qS (∀z∈o,Sm z):=⟨HS.out _ (xgd s)⟩;have J:=xgv X;have a5:=hk.I d;have a7:=a6.ext (lx d);have a4:=hf.I d;have lA:=c.lt;have b8:=zN7 wr.heap.size C (qQ C (G i));have c0:=d.size;clear s X;go_upto_region 5 with(fail)
  refine yD 13 [pcD 11 [] (zG9 wr.heap.size C (qQ C (G i)))] ?_;refine sRd ?_;refine sRc (fun wS hI Gk m=>?_) (fun b4 _=>?_)
  .go_simp
   refine(zPZ _ _ o o k B H C x y _ (q.I hI.bel) (q.I hI.bel) J.out J.out L (a4.I hI.bel) (a5.I hI.bel) (a7.ext (lx hI.bel)) SZ.out HK.out).mono ?_
   (rintro e wa ⟨b3,rfl,⟨g,p,e2,v⟩,a3⟩;rw[a9.out]at v;have q:zG9 wr.heap.size C (qQ C (G i)) wa b3:=⟨g,p,zF hI.bel.size e2,v⟩)
   exact⟨_,rfl,m _ _ q,a3⟩
  refine sRd ?_;refine sRe ?_;intro Z E a2;obtain⟨g,rfl,b7,Q⟩:zG9 wr.heap.size C (qQ C (G i)) Z b4:=a2;have c:=c.I E;have f1:=c.frozen i;obtain⟨u,f2⟩:∃u,Z.cell? ⟨w.heap.size,i,none⟩=some u:=by
   rw[c.cell i];exact⟨_,Array.getElem?_eq_getElem (by rw[zCz oM];exact S)⟩
  have T:=c.set_ i (.slice (some ⟨g,0,none⟩) C C);rw[<-l,zHK oM,l]at T;have U:=c.lext dE i (.slice (some ⟨g,0,none⟩) C C);have a0:=xgv Q;have f:=xgv N.out;clear p1 Q;go_wp2;go_roundw
  case rel=>
   refine⟨i+1,bs++ [g],oM,by simp,by simp[l],yM (nx d E) (xgf _) _ _,T,⟨⟨?_,?_⟩⟩⟩
   .rw[yI]
    refine⟨f.out.1,by simp,fun x hx y V=>?_⟩;simp at V;subst V;obtain⟨t,a,e⟩:=yL hx;have:=(f.out.2 t x (by rw[xga a,e])).2.lt;omega
   intro t b a;by_cases e:t=i
   .subst e
    rw[List.getElem?_append_right oM,l]at a;simp at a;subst a;exact⟨oM,a0.out.old (yO _ _ _ _ _ oM) U⟩
   have b2:t<bs.length:=by
    have h5:=(xge.1 a).1;simp at h5;omega
   rw[List.getElem?_append_left b2]at a;obtain⟨K,D⟩:=f.out.2 t b a;exact⟨K,(D.I E).old (yO _ _ _ _ _ oM) U⟩
  case measure=>exact meq
 obtain rfl:i=R:=oM;have f:=xgv N.out;go_wp2;go_ret;refine⟨rfl,⟨bs,l,?_⟩,d⟩;exact yH.ofPart c l f.out.1 (fun t b a=>by
  obtain⟨K,D⟩:=f.out.2 t b a;have b0:t<i:=by have:=(xge.1 a).1;omega
  exact⟨oM,_,zCy i C G b0,by simp,D⟩) (by simp[yV]) (xgf _) L hR
abbrev tM:TypeId:=29
theorem Blk.six{a b c d e f:Value}(h:Blk w g t #[a,b,c,d,e,f]):
  w.cell? ⟨g,0,none⟩=some a/\w.cell? ⟨g,1,none⟩=some b/\w.cell? ⟨g,2,none⟩=some c/\w.cell? ⟨g,3,none⟩=some d/\w.cell? ⟨g,4,none⟩=some e/\w.cell? ⟨g,5,none⟩=some f:=
 ⟨h.cell 0,h.cell 1,h.cell 2,h.cell 3,h.cell 4,h.cell 5⟩
theorem zOw(b:Nat)(c:Nat)(g d i f:Int)(y z:Value)(p q:List (List Int))(w:World)(R:Blk w b tM #[niq g,niq d,y,niq i,niq f,z])(hc:2<=c)(W:c<=9223372036854775807)
  (N:zLq w (.agg #[niq g,niq d,y]) g d p) (O:zLq w (.agg #[niq i,niq f,z]) i f q):
  CPq 161 #[slq b 2 c] w fun e w'=>e= .returned (.bool (decide (zAq g d p/\zAq i f q)))/\BWq w w':=by
 obtain⟨r,F⟩:∃r:Bool,decide (zAq g d p/\zAq i f q)=r:=⟨_,rfl⟩;rw[F];have B:=xgv F;obtain⟨o1,Y,k1,rfl⟩:∃o n k,y= .slice o n k:=by
  obtain⟨A,e,P,n,Q,rfl,-⟩:=N;injection e with e
  simp only[Array.mk.injEq,List.cons.injEq]at e;exact⟨_,_,_,e.2.2.1⟩
 obtain⟨o2,Z,k2,rfl⟩:∃o n k,z= .slice o n k:=by
  obtain⟨A,e,P,n,Q,rfl,-⟩:=O;injection e with e
  simp only[Array.mk.injEq,List.cons.injEq]at e;exact⟨_,_,_,e.2.2.1⟩
 clear F;go_enter Tryz.func161,Tryz.ntmps161;go_wp2;go_loopw [7] (fun G wr=>∃k:Nat,k<=2/\G=niq k/\BWq w wr/\qS ((0<k->zAq g d p)/\(1<k->zAq i f q))) (fun G _=>2-(intOf G).toNat)
 case atStart=>exact⟨0,oM,rfl,zB _ _,⟨⟨fun h=>oM,fun h=>oM⟩⟩⟩
 obtain⟨k,X,rfl,j,E⟩:=hrel;obtain⟨H,I,J,K,L,M⟩:=(R.I j).six;by_cases S:k=0
 .subst S
  go_upto_region 4 with(fail)
  refine zE ?_;intro D u;obtain⟨m,C,U⟩:=qL u;have s:=C.three;clear H I J K L M u;go_wp2_with fail
  refine(zGt _ g d p D ((N.I j).I m)).mono ?_;rintro e V ⟨rfl,v⟩;by_cases a:zAq g d p
  .rw[zT a]
   have l:=xgv a;clear a s;go_wp2;go_roundw
   case rel=>exact⟨1,oM,by simp,nx (nx j m) v,⟨⟨fun _=>l.out,fun h=>oM⟩⟩⟩
   case measure=>simp[intOf]
  rw[zR a];have l:=xgv a;clear a s;go_wp2;go_ret;refine⟨?_,nx (nx j m) v⟩;have t:r=false:=by rw[<-B.out];exact zR (fun x=>l.out (by first|exact x.1|exact x.2))
  rw[t];rfl
 by_cases T:k=1
 .subst T
  go_upto_region 4 with(fail)
  refine zE ?_;intro D u;obtain⟨m,C,U⟩:=qL u;have s:=C.three;clear H I J K L M u;go_wp2_with fail
  refine(zGt _ i f q D ((O.I j).I m)).mono ?_;rintro e V ⟨rfl,v⟩;by_cases a:zAq i f q
  .rw[zT a]
   have l:=xgv a;clear a s;go_wp2;go_roundw
   case rel=>exact⟨2,oM,by simp,nx (nx j m) v,⟨⟨fun _=>E.out.1 oM,fun _=>l.out⟩⟩⟩
   case measure=>simp[intOf]
  rw[zR a];have l:=xgv a;clear a s;go_wp2;go_ret;refine⟨?_,nx (nx j m) v⟩;have t:r=false:=by rw[<-B.out];exact zR (fun x=>l.out (by first|exact x.1|exact x.2))
  rw[t];rfl
 obtain rfl:k=2:=oM;go_wp2;go_ret;refine⟨?_,j⟩;have t:r=true:=by rw[<-B.out];exact zT ⟨E.out.1 oM,E.out.2 oM⟩
 rw[t];rfl
abbrev tP:TypeId:=195
theorem Tryz.infoP:(Tryz.prog.info? tP).map (fun i=>(i.zero,i.size,i.bytes))=some (some (.agg #[niq 0,niq 0]),2,16):=by kernel_rfl
theorem zXN{w:World}{ops:Array Oper}{rest:List Oper}{o:Oper}{a:Act}{Q:Exit->Act->World->Prop}(t:o.guard=none)(s x:Operand)
  (z:o.op= .call {callee:=.builtin .append,args:=#[s,x],argTypes:=#[194,194]})
  (base:Nat) (v:Value) (n:Nat) (xs:List Value) (B:a.eval s=v) (A:w.ownsRow base tP 2 v n xs) (b c:Nat) (f g:Int) (C:a.eval x=slq b 1 c)
  (q:Blk w b tP #[niq f,niq g]) (H:n+1<=1099511627776) (r:base<=w.heap.size)
  (h:∀e w',w'.ownsRow base tP 2 e (n+1) (xs++ [niq f,niq g])->w.grownBy w' v.ownBlock->wpList Tryz.prog ops Q rest (a.put o.dst e) w'):wpList Tryz.prog ops Q (o::rest) a w:=by
 obtain⟨G,y,D,E,F⟩:=info_parts Tryz.infoP;obtain⟨k,l,-,-⟩:=q.two;refine wpList_append_own w t s x 194 z base tP G _ 2 16 Tryz.underlying194 y D E F rfl oM v n xs B A ⟨b,0,none⟩ 1 c [niq f,niq g] C rfl ?_ ?_ (by simp[maxLen];omega) oM r ?_
 .intro j u d
  rw[jI];match j with
  |0=>simp at d;subst d;exact k
  |1=>simp at d;subst d;exact l
  |j+2=>simp at d
 .intro u i
  simp at i;rcases i with rfl|rfl<;>rfl
 intro e w' m p _;exact h e w' m p
def zHB(z1 z2:Int):World->Value->Prop:=fun w v=>∃g cap cs,v=slq g 1 cap/\1<=cap/\cap<=9223372036854775807/\Blk w g tP cs/\cs[0]?=some (niq z1)/\cs[1]?=some (niq z2)
theorem zKp(j k:Int):zAA (zHB j k):=fun _ _ _ e ⟨g,a,b,c,d,f,h,i⟩=>⟨g,a,b,c,d,f,h.I e,i⟩
theorem zLG(b c:Nat)(R C:Int)(A:Value)(w:World)(M:Blk w b tM #[niq R,niq C,A])(K:∃o n k,A= .slice o n k)(hc:1<=c)(Y:c<=9223372036854775807):
  CPq 163 #[slq b 1 c] w fun e w'=>∃v,e= .returned v/\zHB R C w' v/\BWq w w':=by
 obtain⟨o1,n1,k1,rfl⟩:=K;go_enter Tryz.func163,Tryz.ntmps163;go_wp2;go_loopw [3,8] (fun u p wr=>∃k:Nat,k<=1/\p=niq k/\BWq w wr/\wr.ownsRow w.heap.size tP 2 u k (if k=0 then []else [niq R,niq C])) (fun _ p _=>1-(intOf p).toNat)
 case atStart=>exact⟨0,oM,rfl,zB _ _,World.ownsRow_nil _ _ _ _⟩
 obtain⟨k,l,rfl,j,h⟩:=hrel;by_cases N:k=0
 .subst N
  rw[zC rfl]at h;obtain⟨y,z,B,D,E,F⟩:=(M.I j).three;go_upto_region 5 with(fail)
  refine zE ?_;intro d s;obtain⟨a,x,Z⟩:=qL s;have T:=x.three;have O:=h.kept (row:=none) ⟨a.os,a.tape,a.output,a.size,fun k l _=>a.block k l⟩ (by cases S:u3.ownBlock<;>simp);have X:=(nx j a).size;clear y z B D E F s;have P:=O.kept (row:=none) (w':=d.alloc (.cells #[niq R,niq C] tP)) (by
   have f:BWq d (d.alloc (.cells #[niq R,niq C] tP)):=(zB _ _).alloc (xgf _) _;exact⟨f.os,f.tape,f.output,f.size,fun k l _=>f.block k l⟩) (by cases S:u3.ownBlock<;>simp)
  go_wp2_with (at_builtin;refine zXN rfl _ _ rfl w.heap.size u3 0 [] rfl P d.heap.size 1 R C rfl (yJ _ _ _) oM (by simp;omega) ?_;intro v' w' Q m)
  have m:World.grownBy (d.alloc (.cells #[niq R,niq C] tP)) w' (Value.ownBlock u3):=m;have L:BWq w w':=((nx j a).alloc oM _).grown m (by simp;omega) (fun g t=>by
   rcases h.2 with⟨rfl,-⟩|⟨U,q,i,rfl,G,-⟩
   cases t;simp only[Value.ownBlock,Option.some.injEq]at t;omega)
  go_roundw
  case rel=>exact⟨1,oM,by simp,L,by rw[if_neg oM];simpa using Q⟩
  case measure=>simp[intOf]
 obtain rfl:k=1:=oM;rw[zA oM]at h;go_wp2;go_ret;refine⟨_,rfl,?_,j⟩;rcases h.2 with⟨-,V⟩|⟨g,q,i,rfl,G,H,I,J,W,r⟩
 omega;refine⟨g,q,i,rfl,I,J,H,?_,?_⟩
 .have:(i.toList.take 2)[0]?=some (niq R):=by rw[r];rfl
  rw[List.getElem?_take_of_lt oM]at this;simpa using this
 have:(i.toList.take 2)[1]?=some (niq C):=by rw[r];rfl
 rw[List.getElem?_take_of_lt oM]at this;simpa using this
theorem Tryz.infoNt:(Tryz.prog.info? 3).map (fun i=>(i.zero,i.size,i.bytes))=some (some (niq 0),1,8):=by kernel_rfl
theorem Tryz.cellsN:Tryz.prog.cellsOf 3=1:=by kernel_rfl
theorem zMo(W:World)(a b c d:Int):(Op.equalIn 10000 tP (.agg #[niq a,niq b]) (.agg #[niq c,niq d])).run Tryz.prog W= .ok (decide (a=c/\b=d)) W:=by
 obtain⟨r,l,-,q,-⟩:=info_parts Tryz.infoNt;have e:∀(g:Array Value) (i:Nat) (v:Value),g[i]?=some v->(part 3 g i).run Tryz.prog W= .ok v W:=by
  intro g i v h;simp[part,isAgg,run_underlying Tryz.underlying3,h,go_sem]
 rw[run_equalIn_array W 9999 _ _ Tryz.underlying195 l,Tryz.cellsN];have k:∀x y:Int,(Op.equalIn 9999 3 (niq x) (niq y)).run Tryz.prog W= .ok (x==y) W:=fun x y=>run_equalIn_int W 9998 3 .i64 .i64 x y zCi
 have n:=e #[niq a,niq b] 0 _ rfl;have p1:=e #[niq a,niq b] 1 _ rfl;have o:=e #[niq c,niq d] 0 _ rfl;have p:=e #[niq c,niq d] 1 _ rfl;have m:List.range 2= [0,1]:=rfl;rw[m];simp only[Op.eqItems,Sem.run_bind,Nat.zero_mul,Nat.one_mul,n,p1,o,p,Result.andThen_ok,k];by_cases f:a=c
 .by_cases j:b=d
  .simp[f,j,go_sem]
  simp[f,j,go_sem]
 simp[f,go_sem]
theorem zLH(q r:Value)(d b f c:Int)(w:World)(y:zHB d b w q)(z:zHB f c w r):
  CPq 162 #[q,r] w fun e w'=>e= .returned (.bool (decide (d=f/\b=c)))/\BWq w w':=by
 obtain⟨g,i⟩:∃g:Bool,decide (d=f/\b=c)=g:=⟨_,rfl⟩;rw[i];have m:=xgv i;obtain⟨K,G,I,rfl,k1,k2,n,s,t⟩:=y;obtain⟨L,H,J,rfl,N,O,o,u,x⟩:=z;have j:=fun W=>zMo W d b f c
 rw[i]at j;clear i;go_enter Tryz.func162,Tryz.ntmps162;go_wp2;go_loopw [13] (fun l wr=>∃k:Nat,k<=1/\l=niq k/\BWq w wr/\qS (0<k->d=f/\b=c)) (fun l _=>1-(intOf l).toNat)
 case atStart=>exact⟨0,oM,rfl,zB _ _,⟨fun h=>oM⟩⟩
 obtain⟨k,M,rfl,a,C⟩:=hrel;by_cases D:k=0
 .subst D
  have p1:=((n.I a).cell 0).trans s;have p2:=((n.I a).cell 1).trans t;have P:=((o.I a).cell 0).trans u;have Q:=((o.I a).cell 1).trans x;go_upto_region 6 with(fail)
  refine zBK [pcD 8 [] (fun _ v=>v= .bool (!g))] ?_;refine sRd ?_;refine sRc (fun S hI F B=>?_) (fun _ E=>?_)
  .go_simp
   exact⟨B _ _ rfl,zB _ _⟩
  obtain⟨_,-,rfl⟩:=E;refine sRe ?_;intro R p _;cases g with
  |true=>
   clear j;go_wp2;go_roundw
   case rel=>exact⟨1,oM,by simp,nx a p,⟨fun _=>jM m.out⟩⟩
   case measure=>simp[intOf]
  |false=>
   clear j;go_wp2;go_ret;exact⟨rfl,nx a p⟩
 obtain rfl:k=1:=oM;go_wp2;go_ret;refine⟨?_,a⟩;have A:g=true:=by rw[<-m.out];exact zT (C.out oM)
 rw[A];rfl
theorem zUx(b:Nat)(c:Nat)(f a g d:Int)(h i:Value)(j k:List (List Int))(w:World)(o:Blk w b tM #[niq f,niq a,h,niq g,niq d,i])(hc:2<=c)(p:c<=9223372036854775807)
  (l:zLq w (.agg #[niq f,niq a,h]) f a j) (m:zLq w (.agg #[niq g,niq d,i]) g d k) (q:zAq f a j) (r:zAq g d k):
  CPq 161 #[slq b 2 c] w fun e w'=>∃v,e= .returned v/\v= .bool true/\BWq w w':=by
 refine(zOw b c f a g d h i j k w o hc p l m).mono ?_;rintro e w' ⟨rfl,n⟩;exact⟨_,rfl,by rw[zT ⟨q,r⟩],n⟩
theorem zOd(a b:Value)(R C:Int)(w:World)(c:zHB R C w a)(d:zHB R C w b):
  CPq 162 #[a,b] w fun e w'=>∃v,e= .returned v/\v= .bool true/\BWq w w':=by
 refine(zLH a b R C R C w c d).mono ?_;rintro e w' ⟨rfl,f⟩;exact⟨_,rfl,by rw[zT ⟨rfl,rfl⟩],f⟩
def zWr(a b c d e f:Value):World->Value->Prop:=fun w v=>∃g,v=slq g 2 2/\Blk w g tM #[a,b,c,d,e,f]
def zWP(a b c:Value):World->Value->Prop:=fun w v=>∃g,v=slq g 1 1/\Blk w g tM #[a,b,c]
theorem zMI(a b c d e f:Value):zAA (zWr a b c d e f):=fun _ _ _ x ⟨g,h,i⟩=>⟨g,h,i.I x⟩
theorem zMH(a b c:Value):zAA (zWP a b c):=fun _ _ _ x ⟨g,d,e⟩=>⟨g,d,e.I x⟩
def zWM(w:World)(R C:Nat)(M:List (List Int))(e:Ending)(w':World):Prop:=∃v bs,e= .returned (.tuple #[v,niq 0])/\zU2 w' w.heap.size v R C bs M/\BWq w w'
theorem zRb(A:Value)(M:List (List Int))(R C:Nat)(k:Int)(N:Nat)(x y:Value)(w:World)(h:zLq w (.agg #[niq R,niq C,A]) R C M)(hF:zBe R C M)(hR:R<=1000000)(hC:C<=1000000)
  (W:Blk w N tI #[x,y]) (a6:yA w (.agg #[x,y]) k) (U:∀r∈M,∀z∈r,Sm z) (s2:Sm k):
  CPq 135 #[.agg #[niq R,niq C,A],.agg #[niq R,niq C,A],.func (.func 136) #[] #[ptq N 0]] w (zWM w R C (yV R C (fun i j=>k*ent M i j))):=by
 have b0:∀(S:Fn) (first c:Array Value) (w:World),(Instr.makeFunc S first c).run Tryz.prog w= .ok (.func S first c) w:=fun _ _ _ _=>rfl
 have T:=h;obtain⟨A',q,h⟩:=h;obtain rfl:A=A':=by
  injection q with q
  simp only[Array.mk.injEq,List.cons.injEq]at q;exact q.2.2.1
 obtain⟨f,n,c,rfl,e2,e3,e4,-⟩:=id h;have Y:=xgv hF;have Q:=xgv hF.valid;have HS:=xgv U;have HK:=xgv s2;have HH:=xgv h;have P:=xgv T;obtain⟨G,a⟩:∃G:Nat->Nat->Int,(fun i j=>k*ent M i j)=G:=⟨_,rfl⟩;rw[a];have Z:=xgv a;clear hF U a e2 h T q;have a7:=zMI (niq R) (niq C) (.slice f n c) (niq R) (niq C) (.slice f n c);have a8:=zMH (niq R) (niq C) (.slice f n c);have a9:=zKp R C;go_enter Tryz.func135,Tryz.ntmps135;go_upto_region 1 with(fail)
 refine zE ?_;intro W0 V;obtain⟨E,g,t,B,d,b2⟩:=zLb V;have u:=g.three;have D:=t.three;clear V;refine zBK [pcD 2 [] (zWr (niq R) (niq C) (.slice f n c) (niq R) (niq C) (.slice f n c)),pcD 3 [2] (fun _ v=>v= .bool true),pcD 7 [] (zWP (niq R) (niq C) (.slice f n c)),pcD 8 [7] (zHB R C),pcD 10 [] (zWP (niq R) (niq C) (.slice f n c)),pcD 11 [10] (zHB R C),pcD 12 [8,11] (fun _ v=>v= .bool true)] ?_;refine sRd ?_;refine sRc (fun p hI m a=>?_) (fun b7 _=>?_)
 .go_simp
  exact⟨a _ _ ⟨_,rfl,yJ _ _ _⟩,(zB _ _).alloc (xgf _) _⟩
 refine sRc (fun p hI I m a=>?_) (fun _ b=>?_)
 .obtain⟨g2,rfl,a2⟩:=I
  go_simp;refine(zUx g2 2 R C R C _ _ M M _ a2 (xgf _) oM ((P.out.I E).I hI.bel) ((P.out.I E).I hI.bel) Q.out Q.out).mono ?_;rintro e O ⟨v,rfl,b,l⟩;exact⟨_,rfl,a _ _ b,l⟩
 obtain⟨_,-,rfl⟩:=b;refine sRd ?_;refine sRc (fun p hI m a=>?_) (fun b8 _=>?_)
 .go_simp
  exact⟨a _ _ ⟨_,rfl,yJ _ _ _⟩,(zB _ _).alloc (xgf _) _⟩
 refine sRc (fun p hI J m a=>?_) (fun b9 _=>?_)
 .obtain⟨g7,rfl,a3⟩:=J
  go_simp;refine(zLG g7 1 R C _ _ a3 ⟨_,_,_,rfl⟩ (xgf _) oM).mono ?_;rintro e O ⟨v,rfl,b,l⟩;exact⟨_,rfl,a _ _ b,l⟩
 refine sRd ?_;refine sRc (fun p hI m a=>?_) (fun b5 _=>?_)
 .go_simp
  exact⟨a _ _ ⟨_,rfl,yJ _ _ _⟩,(zB _ _).alloc (xgf _) _⟩
 refine sRc (fun p hI F m a=>?_) (fun b6 _=>?_)
 .obtain⟨a0,rfl,a1⟩:=F
  go_simp;refine(zLG a0 1 R C _ _ a1 ⟨_,_,_,rfl⟩ (xgf _) oM).mono ?_;rintro e O ⟨v,rfl,b,l⟩;exact⟨_,rfl,a _ _ b,l⟩
 refine sRc (fun p hI K H m a=>?_) (fun _ b=>?_)
 .go_simp
  refine(zOd _ _ R C _ K H).mono ?_;rintro e O ⟨v,rfl,b,l⟩;exact⟨_,rfl,a _ _ b,l⟩
 obtain⟨_,-,rfl⟩:=b;refine sRd ?_;refine sRe ?_;intro w1 o I _ J K F H _;have s:=nx E o;have g:=g.I o;have t:=t.I o;have B:=B.I o;have d:=d.I o;have b3:=s.size;have b4:=o.size;clear u D I J K F H;have u:=g.three;have D:=t.three;go_wp2_with fail
 refine(zPQ _ M R C k (w.heap.size+1+1) N x y w1 (HH.out.I s) Y.out hR hC B (W.I s) (a6.ext (lx s)) HS.out HK.out).mono ?_;rintro e w2 ⟨rfl,⟨bs,a5,X⟩,L⟩;rw[Z.out]at X;have a4:=nx s L;have g:=g.I L;have d:=d.I L;clear u D;have u:=g.three;have r1:=d.three;have lr:=d.lt;go_wp2;refine bodyPost_ret (zGz rfl _ rfl (d.put3 _ _ _) rfl) rfl ⟨_,bs,rfl,⟨a5,_,rfl,?_⟩,yM (yM (yM a4 oM 0 _) oM 1 _) oM 2 _⟩;exact(X.keep (fun k W=>zBS _ _ k _ _ _ oM) (d.lext3 dE _ _ _)).mono oM
theorem zOG(v x:Value)(M:List (List Int))(R C:Nat)(k:Int)(w:World)(h:zLq w v R C M)(hF:zBe R C M)(o:yA w x k)(O:R<=1000000)(N:C<=1000000)
  (s:∀r∈M,∀z∈r,Sm z) (S:Sm k):
  CPq 103 #[v,x] w (zDW w R C (yV R C (fun i j=>k*ent M i j))):=by
 have Y:∀(q:Fn) (first c:Array Value) (w:World),(Instr.makeFunc q first c).run Tryz.prog w= .ok (.func q first c) w:=fun _ _ _ _=>rfl
 have L:=h;obtain⟨A,rfl,h⟩:=h;obtain⟨V,n,c,rfl,K,W,X,-⟩:=id h;obtain⟨kn,ka,kl,kc,kx,rfl,Q⟩:=id o;have y:=xgv hF;have E:=xgv s;have D:=xgv S;clear hF s Q K;obtain⟨G,l⟩:∃G:Nat->Nat->Int,(fun i j=>k*ent M i j)=G:=⟨_,rfl⟩;rw[l];have B:=xgv l;clear l;go_enter Tryz.func103,Tryz.ntmps103;go_upto_region 1 with(fail)
 refine zE ?_;intro H t;obtain⟨d,J,I,a,Z⟩:=zBB t;have p:=J.three;clear t;go_wp2_with fail
 refine(zRb _ M R C k (w.heap.size+1) _ _ H (L.I d) y.out O N I (o.ext (lx d)) E.out D.out).mono ?_;rintro e w1 ⟨a2,bs,rfl,⟨P,T,rfl,b⟩,m⟩;rw[B.out]at b;obtain⟨oo,on,oc,rfl,-,-,-,-⟩:=id b.rows;have g:=nx d m;have a:=a.I m;have a1:=m.size;clear p;go_upto_region 2 with(fail)
 refine zE ?_;intro U u;obtain⟨f,F,a0⟩:=qL u;have a:=a.I f;have b:=b.I f;have g:=nx g f;have p:=F.three;have r1:=a.three;have lr:=a.lt;clear u;go_wp2;refine zAy rfl rfl rfl (a.put3 _ _ _) ⟨_,bs,rfl,⟨P,_,rfl,?_⟩,yM (yM (yM g oM 0 _) oM 1 _) oM 2 _⟩;exact(b.keep (fun k o=>zBS _ _ k _ _ _ oM) (a.lext3 dE _ _ _)).mono oM
def zFm(zs:List Int)(M:List (List Int))(m j:Nat):Int:=zQz (fun t=>zs.getD t 0*ent M t j) m
def zGi(zs:List Int)(M:List (List Int))(m C:Nat):Prop:=∀j,j<C->∀t,t<m->Sm (zs.getD t 0)/\Sm (ent M t j)/\Sm (zs.getD t 0*ent M t j)/\Sm (zFm zs M t j)
theorem zGT(zs:List Int)(M:List (List Int))(m j:Nat):zFm zs M (m+1) j=zFm zs M m j+zs.getD m 0*ent M m j:=rfl
theorem zQh(w:World)(n:Nat)(f:Nat->Int)(d:∀t,t<n->f t=0):yY (w.alloc (.cells (zeroCells n) tI)) w.heap.size (qQ n f):=by
 have b:=zGS w n;have c:List.replicate n (0:Int)=qQ n f:=by
  apply qI;simp[qQ];intro i e a;simp[qQ]at a;simp[qQ,d i a]
 rwa[c]at b
theorem zOH(v mv:Value)(zs:List Int)(M:List (List Int))(m C:Nat)(w:World)(b9:zAR w v zs)(G:zAo w mv m C M)(hl:zs.length=m)(hF:zBe m C M)(hm:m<=1000000)(hC:C<=1000000)(hS:zGi zs M m C):
  CPq 84 #[v,mv] w fun e w'=>∃v,e= .returned v/\zG9 w.heap.size C (qQ C (zFm zs M m)) w' v/\BWq w w':=by
 obtain⟨A,rfl,G⟩:=G;obtain⟨ao,n,a0,rfl,E,e3,e4,-⟩:=id G;obtain rfl:m=n:=by rw[<-E,hF.1]
 obtain⟨vo,n1,f5,rfl,f1,f3,f4,-⟩:=id b9;obtain rfl:m=n1:=oM;have c9:=fun W=>mkI (C:Int) C rfl oM W
 have HL:=xgv hl;have Y:=xgv hF;have HS:=xgv hS;clear hl hF hS E f1;go_enter Tryz.func84,Tryz.ntmps84;go_upto_region 1 with(fail)
 refine zE ?_;intro D a5;obtain⟨a3,bx,d9⟩:=qL a5;have H:=bx.three;clear a5;go_upto_region 2 with(fail)
 refine zE ?_;intro W1 K;obtain⟨a4,-,e0⟩:=qL K;have a:yY W1 D.heap.size (qQ C (zFm zs M 0)):=by
  rw[K.out];exact zQh D C _ (fun _ _=>rfl)
 have bx:=bx.I a4;have hB:=nx a3 a4;clear K c9 H;go_wp2;go_loopw [15] (fun T wr=>∃i:Nat,i<=m/\T=niq i/\BWq w wr/\Blk wr w.heap.size tM #[niq m,niq C,.slice ao m a0]/\yY wr D.heap.size (qQ C (zFm zs M i))) (fun T _=>m-(intOf T).toNat)
 case atStart=>exact⟨0,oM,rfl,hB,bx,a⟩
 obtain⟨i,hi,rfl,b,bx,a⟩:=hrel;have c7:=a3.size;by_cases N:i<m
 .obtain⟨b1,x,s1,a1,l1,k1,rfl,d4,c2,p1,p2,d⟩:=(b9.I b).cell (k:=i) (by rw[HL.out];exact N)
  have R:qS (zs.getD i 0=x):=⟨zD2 c2⟩;have d7:=b.size;have c4:=bx.lt;have lr:=a.lt;clear c2;go_upto_region 5 with(fail)
  refine zE ?_;intro W6 a6;obtain⟨F,c,e5⟩:=qL a6;have o:=c.two;have d:=d.ext (lx F);have bx:=bx.I F;have a:=a.I F;have b:=nx b F;clear p1 p2 a6;go_wp2_with fail
  refine(zAn _ x W6 d.J).mono ?_;rintro e w7 ⟨rfl,p⟩;have d:=d.ext (lx p);have bx:=bx.I p;have a:=a.I p;have c:=c.I p;have b:=nx b p;clear o;by_cases u:x=0
  .rw[zDi u]
   have s:qS (qQ C (zFm zs M i)=qQ C (zFm zs M (i+1))):=⟨qZ fun t _=>by rw[zGT,R.out,u,zAM,jN]⟩;clear u;go_wp2;go_roundw
   case rel=>exact⟨i+1,oM,by simp,b,bx,s.out ▸ a⟩
   case measure=>exact meq
  have L:=zFq u;obtain⟨V,b4⟩:∃V,zAB x 0=V:=⟨_,rfl⟩;rw[b4]at L ⊢
  clear b4 u;obtain⟨b2,ra,rn,rc,ys,rfl,d5,Q,X,hv⟩:=G.row (k:=i) (by rw[Y.out.1];exact N);have c0:=Y.out.2 ys (xgd Q);have d0:=hv.len;obtain rfl:C=rn:=oM;have Z:=xgv (And.intro Q c0);have X:=qK X b;have H:=bx.three;obtain⟨d2,e7,e8⟩:=d0;have b7:qQ C (zFm zs M i)=qQ C (jD (zFm zs M (i+1)) (zFm zs M i) 0):=qZ fun t _=>by unfold jD;rw[zA oM]
  rw[b7]at a;clear Q c0 d2 b7;go_wp2;rw[show(V==0)=false by simpa using L];clear L X H;go_loopw [29] (fun U wt=>∃j:Nat,j<=C/\U=niq j/\BWq w wt/\Blk wt w.heap.size tM #[niq m,niq C,slq b2 m a0]/\yY wt D.heap.size (qQ C (jD (zFm zs M (i+1)) (zFm zs M i) j))/\Blk wt wr.heap.size tI #[.bool s1,.slice a1 l1 k1]/\yA wt (.agg #[.bool s1,.slice a1 l1 k1]) x) (fun U _=>C-(intOf U).toNat)
  case atStart=>exact⟨0,oM,rfl,b,bx,a,c,d⟩
  rename World=>wt
  obtain⟨j,hj,rfl,b,bx,a,c,d⟩:=hrel;by_cases r:j<C
  .obtain⟨b3,y,s2,a2,l2,k2,rfl,d6,c3,q1,q2,h⟩:=(hv.I b).cell (k:=j) (by rw[Z.out.2];exact r)
   have S:qS (ent M i j=y):=⟨zDL Z.out.1 c3⟩;have d8:=b.size;have c4:=bx.lt;have lr:=a.lt;have l7:=c.lt;clear c3;go_upto_region 9 with(fail)
   refine zE ?_;intro W8 a7;obtain⟨g,l,e6⟩:=qL a7;have o:=l.two;have d:=d.ext (lx g);have h:=h.ext (lx g);have bx:=bx.I g;have a:=a.I g;have c:=c.I g;have b:=nx b g;clear q1 q2 a7;go_wp2_with fail
   refine(zAn _ y W8 h.J).mono ?_;rintro e w9 ⟨rfl,f⟩;have d:=d.ext (lx f);have h:=h.ext (lx f);have bx:=bx.I f;have a:=a.I f;have c:=c.I f;have l:=l.I f;have b:=nx b f;clear o;by_cases z:y=0
   .rw[zDi z]
    have s:qS (qQ C (jD (zFm zs M (i+1)) (zFm zs M i) j)=qQ C (jD (zFm zs M (i+1)) (zFm zs M i) (j+1))):=⟨qZ fun t _=>by
     unfold jD;by_cases I:t<j
     .rw[zC I,zC oM]
     by_cases h2:t=j
     .subst h2
      rw[zA I,zC oM,zGT,S.out,z,zZ,jN]
     rw[zA I,zA oM]⟩
    clear z;go_wp2;go_roundw
    case rel=>exact⟨j+1,oM,by simp,b,bx,s.out ▸ a,c,d⟩
    case measure=>exact meq
   have c8:=zFq z;obtain⟨e9,b5⟩:∃k1,zAB y 0=k1:=⟨_,rfl⟩;rw[b5]at c8 ⊢
   clear b5 z;obtain⟨n1,n2,n3,n4,r1,r2,-,-,b0⟩:=a.cell (qU r);have b8:jD (zFm zs M (i+1)) (zFm zs M i) j j=zFm zs M i j:=by unfold jD;rw[zA oM]
   rw[b8]at b0;have o:=c.two;obtain⟨e1,E,c5,c6⟩:=l.two;have c4:=bx.lt;have lr:=a.lt;have l7:=c.lt;have l9:=l.lt;have P:=HS.out j r i N;rw[R.out,S.out]at P;have B:=xgv P;clear P b8;go_upto_region 10 with(fail)
   refine yD 11 [pcI 8 (x*y),pcD 9 [8] (fun w v=>yA w v (zFm zs M i j+x*y))] ?_;refine sRd ?_;refine sRc (fun wS hI Gk J=>by go_simp;exact ck J (zCD _ _ x y _ (d.ext hI.lext).J (h.ext hI.lext).J B.out.1 B.out.2.1)) (fun f0 _=>?_);refine sRc (fun wS hI a8 Gk J=>by go_simp;exact ck J (zEu _ _ (zFm zs M i j) (x*y) _ (b0.ext hI.lext).J a8.J B.out.2.2.2 B.out.2.2.1)) (fun f2 _=>?_);refine sRd ?_;refine sRe ?_;intro wv q a8 a9;obtain⟨pn,pa,pl,pc,px,rfl,b6⟩:=id a9;have d3:=xgw b6;have a:=a.I q;have bx:=bx.I q;have c:=c.I q;have d:=d.ext (lx q);have b:=nx b q;obtain⟨m1,m2,m3,m4,z1,z2,z3,z4,-⟩:=a.cell (qU r);have O:=a.set (k:=j) (by rw[zO];exact r) a9;rw[zHk (by rw[zGT,R.out,S.out])]at O;clear b6 o e1 E c5 c6 r1 r2;go_wp2;go_roundw
   case rel=>exact⟨j+1,oM,by simp,yM (yM b oM _ _) oM _ _,(yG _ _ _ _ _ _ _ oM).trans bx,O.1,(yG _ _ _ _ _ _ _ oM).trans c,d.ext O.2⟩
   case measure=>exact meq
  obtain rfl:j=C:=oM;have s:qQ j (jD (zFm zs M (i+1)) (zFm zs M i) j)=qQ j (zFm zs M (i+1)):=qZ fun t ht=>by unfold jD;rw[zC ht]
  rw[s]at a;go_wp2;go_roundw
  case rel=>exact⟨i+1,oM,by simp,b,bx,a⟩
  case measure=>exact meq
 obtain rfl:i=m:=oM;go_wp2;go_ret;exact⟨_,rfl,⟨_,rfl,c7,a⟩,b⟩
def zTj(R C:Nat):World->Value->Prop:=fun w v=>∃g,v=slq g R R/\Blk w g tR (zAz R C [])
def zWp:World->Value->Prop:=fun w v=>∃g,v=ptq g 0/\Blk w g tM #[niq 0,niq 0,.slice none 0 0]
def zTa(n:Nat)(P:World->Value->Prop):World->Value->Prop:=fun w v=>P w v/\∀b o,(v=ptq b o∨∃l c,v= .slice (some ⟨b,o,none⟩) l c)->n<=b
def zWJ(n R C:Nat):World->Value->Prop:=fun w v=>∃s,v= .agg #[niq R,niq C,s]/\zTa n (zTj R C) w s

def zHC(R C:Nat)(F:Nat->Nat->Int)(lo hi:Nat):World->Value->Prop:=fun w v=>∃o c bs,v= .agg #[niq R,niq C,.slice o R c]/\Wri w (.slice o R c) R C bs F/\∀b,Zn (.slice o R c) bs b->lo<=b/\b<hi
theorem zHC.I{lo a:Nat}{v:Value}(h:zHC R C F lo a w v)(f:BWq w w'):zHC R C F lo a w' v:=by
 obtain⟨o,c,bs,b,d,e⟩:=h;exact⟨o,c,bs,b,d.I f,e⟩
theorem zDW.within{e:Ending}(h:zDW w R C (yV R C F) e w'):∃v,e= .returned v/\zHC R C F w.heap.size w'.heap.size w' v/\BWq w w':=by
 obtain⟨v,bs,rfl,⟨i,A',rfl,d⟩,g⟩:=h;have a:Wri w' A' R C bs F:=d.mono (zG _);obtain⟨o,c,rfl⟩:=a.shape;exact⟨_,rfl,⟨o,c,bs,rfl,a,fun b f=>⟨d.fresh f,a.zlt f⟩⟩,g⟩
structure MS where
 op:Nat
 slot:Nat
 R:Nat
 C:Nat
 F:Nat->Nat->Int
def zNl(N:Nat)(vs:List VS)(ms:List MS):Bool:=decide ((vs.map (·.slot))++(ms.map (·.slot))).Nodup && decide ((vs.map (·.op))++(ms.map (·.op))).Nodup && ((vs.map (·.slot))++(ms.map (·.slot))).all (fun s=>decide (s<N))
theorem zHJ{c:Type}{xs ys:List c}(h:(xs++ys).Nodup){a b:c}(d:a∈xs)(e:b∈ys):a≠b:=(yI.1 h).2.2 a d b e
structure RG(W:World)(T0:Array Value)(vs:List VS)(ms:List MS)(L:Array Bool)(T:Array Value)(w:World):Prop where
 wf:zNl T0.size vs ms=true
 lv:∀s∈vs,zAA s.P
 size:T.size=T0.size
 keep:∀j,(∀s∈vs,s.slot≠j)->(∀m∈ms,m.slot≠j)->T[j]?=T0[j]?
 bel:BWq W w
 val:∀s∈vs,L[s.op]?=some true->∃v,T[s.slot]?=some v/\s.P w v
 gh:∃bot top:Nat->Nat,(∀m∈ms,L[m.op]?=some true->W.heap.size<=bot m.op/\top m.op<=w.heap.size/\∃v,T[m.slot]?=some v/\zHC m.R m.C m.F (bot m.op) (top m.op) w v)∧
  ∀m∈ms,∀m'∈ms,m.op<m'.op->L[m.op]?=some true->L[m'.op]?=some true->top m.op<=bot m'.op
section
variable {W:World} {T0:Array Value} {vs:List VS} {ms:List MS} {L:Array Bool} {T:Array Value} {w w':World}
theorem RG.parts(h:RG W T0 vs ms L T w):(vs.map (·.slot)).Nodup/\(vs.map (·.op)).Nodup/\(ms.map (·.slot)).Nodup/\(ms.map (·.op)).Nodup/\(∀s∈vs,∀m∈ms,s.slot≠m.slot/\s.op≠m.op)/\(∀s∈vs,s.slot<T0.size)/\(∀m∈ms,m.slot<T0.size):=by
 have c:=h.wf;unfold zNl at c;simp only[Bool.and_eq_true,decide_eq_true_eq,List.all_eq_true]at c;obtain⟨⟨d,e⟩,f⟩:=c;refine⟨(yI.1 d).1,(yI.1 e).1,(yI.1 d).2.1,(yI.1 e).2.1,fun s b m a=>⟨zHJ d (List.mem_map.2 ⟨s,b,rfl⟩) (List.mem_map.2 ⟨m,a,rfl⟩),zHJ e (List.mem_map.2 ⟨s,b,rfl⟩) (List.mem_map.2 ⟨m,a,rfl⟩)⟩,
  fun s b=>f _ (List.mem_append.2 (.inl (List.mem_map.2 ⟨s,b,rfl⟩))),fun m a=>f _ (List.mem_append.2 (.inr (List.mem_map.2 ⟨m,a,rfl⟩)))⟩
theorem RG.start(b:zNl T0.size vs ms=true:=by kernel_rfl)(hv:∀s∈vs,zAA s.P:=by repeat' (first|exact zBU _|exact zBs _|exact zAl _ _ _|exact zAX _|assumption|refine xgm.2 ⟨?_,?_⟩|exact xgn _)):RG W T0 vs ms (Array.replicate n false) T0 W.drew:=by
 have a:∀k:Nat,(Array.replicate n false)[k]?≠some true:=by
  intro k h;rw[Array.getElem?_replicate]at h;split at h<;>simp at h
 exact⟨b,hv,rfl,fun _ _ _=>rfl,dr _,fun s _ h=>absurd h (a _),fun _=>0,fun _=>0,fun m _ h=>absurd h (a _),fun m _ c _ _ h=>absurd h (a _)⟩
theorem RG.world(h:RG W T0 vs ms L T w)(a:BWq w w'):RG W T0 vs ms L T w':=by
 obtain⟨d,p,j,k⟩:=h.gh;refine⟨h.wf,h.lv,h.size,h.keep,nx h.bel a,fun s c b=>by
  obtain⟨v,l,n⟩:=h.val s c b;exact⟨v,l,h.lv s c _ _ _ a n⟩,d,p,fun m o b=>?_,k⟩
 obtain⟨e,f,v,g,i⟩:=j m o b;exact⟨e,zF f a.size,v,g,i.I a⟩
theorem RG.value{v:Value}(h:RG W T0 vs ms L T w)(s:VS)(b:s∈vs)(D:s.op=k)(C:s.P w v):RG W T0 vs ms (L.setIfInBounds k true) (T.setIfInBounds s.slot v) w:=by
 subst D;obtain⟨p1,p2,M,N,p,J,O⟩:=h.parts;obtain⟨q,K,A,B⟩:=h.gh;have i:∀m∈ms,(L.setIfInBounds s.op true)[m.op]?=some true->L[m.op]?=some true:=fun m a c=>qR c (p s b m a).2
 refine⟨h.wf,h.lv,by simp[h.size],fun j d f=>by rw[xgc (d s b)];exact h.keep j d f,h.bel,?_,q,K,fun m a c=>?_,fun m a o n E F G=>B m a o n E (i m a F) (i o n G)⟩
 .intro t l c
  by_cases g:t=s
  .subst g
   exact⟨v,by rw[Array.getElem?_setIfInBounds_self_of_lt (by rw[h.size];exact J _ b)],C⟩
  have H:t.op≠s.op:=fun e=>g (qV p2 l b e)
  have I:t.slot≠s.slot:=fun e=>g (qV p1 l b e)
  obtain⟨u,d,f⟩:=h.val t l (qR c (zL H));exact⟨u,by rw[xgc (zL I)];exact d,f⟩
 obtain⟨r,x,u,y,z⟩:=A m a (i m a c);exact⟨r,x,u,by rw[xgc (p s b m a).1];exact y,z⟩
theorem RG.v{s:VS}(h:RG W T0 vs ms L T w)(b:s∈vs)(a:L[s.op]?=some true):∃v,T[s.slot]?=some v/\s.P w v:=h.val s b a
theorem RG.y{v:Value}(h:RG W T0 vs ms L T w){s:VS}(c:s∈vs)(a:s.P w v)(b:s.op=k:=by rfl):RG W T0 vs ms (L.setIfInBounds k true) (T.setIfInBounds s.slot v) w:=h.value s c b a
theorem RG.mat{v:Value}(h:RG W T0 vs ms L T w)(S:zCH ops L)(R:L[k]?=some false)(m:MS)(d:m∈ms)(V:m.op=k)(B:BWq w w')(hw:zHC m.R m.C m.F w.heap.size w'.heap.size w' v)
  (X:(ms.all fun c=>!decide (k<c.op)||zHU ops 9 c.op k)=true):RG W T0 vs ms (L.setIfInBounds k true) (T.setIfInBounds m.slot v) w':=by
 subst V;have F:=h.world B;obtain⟨p1,p2,p3,r,J,p6,p7⟩:=h.parts;obtain⟨K,a0,E,Q⟩:=h.gh;have Z:∀c∈ms,m.op<c.op->L[c.op]?≠some true:=fun c f z U=>by
  have G:=zW.1 X c f;simp only[z,decide_true,Bool.not_true,Bool.false_or]at G;have:=zDC S G U;rw[R]at this;cases this
 have p:∀c∈ms,c≠m->(L.setIfInBounds m.op true)[c.op]?=some true->L[c.op]?=some true:=fun c f Y o=>qR o (fun e=>Y (qV r f d e.symm))
 refine⟨h.wf,h.lv,by simp[h.size],fun j A s=>by rw[xgc (s m d)];exact h.keep j A s,F.bel,?_,fun i=>if i=m.op then w.heap.size else K i,fun i=>if i=m.op then w'.heap.size else a0 i,fun c f o=>?_,fun a l b n z H I=>?_⟩
 .intro t C o
  obtain⟨u,A,s⟩:=F.val t C (qR o (zL (J t C m d).2));exact⟨u,by rw[xgc (zL (J t C m d).1)];exact A,s⟩
 .by_cases y:c=m
  .subst y
   simp only[if_true];exact⟨h.bel.size,xgf _,v,by rw[Array.getElem?_setIfInBounds_self_of_lt (by rw[h.size];exact p7 _ d)],hw⟩
  have q:c.op≠m.op:=fun e=>y (qV r f d e)
  have D:c.slot≠m.slot:=fun e=>y (qV p3 f d e)
  simp only[if_neg q];obtain⟨M,N,u,O,P⟩:=E c f (p c f y o);exact⟨M,zF N B.size,u,by rw[xgc (zL D)];exact O,P.I B⟩
 by_cases x:b=m
 .subst x
  by_cases g:a=b
  .subst g;omega
  have q:a.op≠b.op:=fun e=>g (qV r l d e)
  simp only[if_true,if_neg q];exact(E a l (p a l g H)).2.1
 by_cases g:a=m
 .subst g
  exact absurd (p b n x I) (Z b n z)
 have q:a.op≠m.op:=fun e=>g (qV r l d e)
 have D:b.op≠m.op:=fun e=>x (qV r n d e)
 simp only[if_neg q,if_neg D];exact Q a l b n z (p a l g H) (p b n x I)
theorem RG.cell{v:Value}(h:RG W T0 vs ms L T w)(hc:W.cell? ⟨b,o,none⟩=some v):w.cell? ⟨b,o,none⟩=some v:=qK hc h.bel
theorem RG.matv(h:RG W T0 vs ms L T w)(m:MS)(f:m∈ms)(e:L[m.op]?=some true):∃v,T[m.slot]?=some v/\∃o c,v= .agg #[niq m.R,niq m.C,.slice o m.R c]:=by
 obtain⟨g,l,d,k⟩:=h.gh;obtain⟨i,j,v,a,o,c,bs,b,-⟩:=d m f e;exact⟨v,a,o,c,b⟩
end
structure zWG(n0 R C Cu Cw:Nat)(z:W5)(w:World)(v:Value):Prop where
 ex:∃so sc uo uc vo vc wo wc xo xc bS bU bV bW bX,v= .agg #[niq R,niq C,.slice so R sc,niq R,niq Cu,.slice uo R uc,niq R,niq Cu,.slice vo R vc,niq C,niq Cw,.slice wo C wc,niq C,niq Cw,.slice xo C xc]∧
  Wri w (.slice so R sc) R C bS z.s/\Wri w (.slice uo R uc) R Cu bU z.u/\Wri w (.slice vo R vc) R Cu bV z.v/\Wri w (.slice wo C wc) C Cw bW z.w/\Wri w (.slice xo C xc) C Cw bX z.x∧
  (∀b,Zn (.slice so R sc) bS b∨Zn (.slice uo R uc) bU b∨Zn (.slice vo R vc) bV b∨Zn (.slice wo C wc) bW b∨Zn (.slice xo C xc) bX b->n0<=b)∧
  Ap (.slice so R sc) bS (.slice uo R uc) bU/\Ap (.slice so R sc) bS (.slice vo R vc) bV/\Ap (.slice so R sc) bS (.slice wo C wc) bW/\Ap (.slice so R sc) bS (.slice xo C xc) bX/\Ap (.slice uo R uc) bU (.slice vo R vc) bV∧
  Ap (.slice uo R uc) bU (.slice wo C wc) bW/\Ap (.slice uo R uc) bU (.slice xo C xc) bX/\Ap (.slice vo R vc) bV (.slice wo C wc) bW/\Ap (.slice vo R vc) bV (.slice xo C xc) bX/\Ap (.slice wo C wc) bW (.slice xo C xc) bX
theorem zBh{d:Nat}(h:∀x,Zn A bs x->a<=x/\x<b)(e:∀x,Zn A' bs' x->c<=x/\x<d)(i:b<=c):Ap A bs A' bs':=fun x f g=>by
 have:=h x f;have:=e x g;omega
end Go.Proofs.YtniiekppgdkknaaGreat
