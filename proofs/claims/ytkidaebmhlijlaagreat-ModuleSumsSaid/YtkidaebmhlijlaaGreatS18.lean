/- Joined. -/
import Derived.Test.YtkidaebmhlijlaaGreatS14
import Derived.Test.YtkidaebmhlijlaaGreatS15
set_option linter.unusedVariables false
set_option linter.unusedSimpArgs false
set_option linter.unusedSectionVars false
set_option maxHeartbeats 16000000
set_option maxRecDepth 100000
variable{ops:Array Go.Oper}{cs:Array Go.Value}{M:List (List Int)}{zs:List Int}{B C R b g i k n:Nat}{F:Nat->Nat->Int}{t:Go.TypeId}{c0 c1 c10 c11 c12 c13 c14 c2 c3 c4 c5 c6 c7 c8 c9:Go.Value}{W a w w':Go.World}
namespace Go.Proofs.YtkidaebmhlijlaaGreat
open Go.RowKit
def zXb(t:TypeId)(n0:Nat)(cs:Array Value)(w:World)(v:Value):Prop:=∃b,v= .pointer (some ⟨b,0,none⟩)/\n0<=b/\Blk w b t cs
theorem zHK(t:TypeId)(n0:Nat)(cs:Array Value):zAQ (zXb t n0 cs):=fun _ _ _ e ⟨b,h1,h2,h3⟩=>⟨b,h1,h2,h3.below e⟩
def zS7(R C:Int)(M:List (List Int))(w:World)(v:Value):Prop:=∃u,v= .tuple #[u,.int .i64 0]/\zAO w u R C M
theorem zND(R C:Int)(M:List (List Int)):zAQ (zS7 R C M):=fun _ _ _ e ⟨u,h1,h2⟩=>⟨u,h1,h2.below e⟩
theorem zNt(b:Nat)(c:Nat)(R1 C1 R2 C2:Int)(A1 A2:Value)(M1 M2:List (List Int))(w:World)(hb0:Blk w b tM #[.int .i64 R1,.int .i64 C1,A1,.int .i64 R2,.int .i64 C2,A2])(hc:2<=c)(hc2:c<=9223372036854775807)
  (h1:zH2 w (.agg #[.int .i64 R1,.int .i64 C1,A1]) R1 C1 M1) (h2:zH2 w (.agg #[.int .i64 R2,.int .i64 C2,A2]) R2 C2 M2) (v1:zBL R1 C1 M1) (v2:zBL R2 C2 M2):
  Calls Tryz.prog 97 #[.slice (some ⟨b,0,none⟩) 2 c] w fun e w'=>∃v,e= .returned v/\v= .bool true/\Below w.heap.size w w':=by
 refine(zHe b c R1 C1 R2 C2 A1 A2 M1 M2 w hb0 hc hc2 h1 h2).mono ?_;rintro e w' ⟨rfl,hb⟩;exact⟨_,rfl,by rw[decide_eq_true ⟨v1,v2⟩],hb⟩
theorem zKE(v1 v2:Value)(R C:Int)(w:World)(h1:zEV R C w v1)(h2:zEV R C w v2):
  Calls Tryz.prog 125 #[v1,v2] w fun e w'=>∃v,e= .returned v/\v= .bool true/\Below w.heap.size w w':=by
 refine(zHt v1 v2 R C R C w h1 h2).mono ?_;rintro e w' ⟨rfl,hb⟩;exact⟨_,rfl,by rw[decide_eq_true ⟨rfl,rfl⟩],hb⟩
def zXd(a b c d e f:Value):World->Value->Prop:=fun w v=>∃g,v= .slice (some ⟨g,0,none⟩) 2 2/\Blk w g tM #[a,b,c,d,e,f]
def zVM(a b c:Value):World->Value->Prop:=fun w v=>∃g,v= .slice (some ⟨g,0,none⟩) 1 1/\Blk w g tM #[a,b,c]
theorem zGc(a b c d e f:Value):zAQ (zXd a b c d e f):=fun _ _ _ x ⟨g,h1,h2⟩=>⟨g,h1,h2.below x⟩
theorem zEO(a b c:Value):zAQ (zVM a b c):=fun _ _ _ x ⟨g,h1,h2⟩=>⟨g,h1,h2.below x⟩
def zWl(w:World)(R C:Nat)(M:List (List Int))(e:Ending)(w':World):Prop:=∃v bs,e= .returned (.tuple #[v,.int .i64 0])/\zXa w' w.heap.size v R C bs M/\Below w.heap.size w w'
theorem zTL(A:Value)(M:List (List Int))(R C:Nat)(k:Int)(kb:Nat)(x y:Value)(w:World)(h:zH2 w (.agg #[.int .i64 R,.int .i64 C,A]) R C M)(hF:zBc R C M)(hR:R<=1000000)(hC:C<=1000000)
  (hk:Blk w kb tI #[x,y]) (hkv:jT w (.agg #[x,y]) k) (hS:∀r∈M,∀z∈r,Sm z) (s2:Sm k):
  Calls Tryz.prog 156 #[.agg #[.int .i64 R,.int .i64 C,A],.agg #[.int .i64 R,.int .i64 C,A],.func (.func 157) #[] #[.pointer (some ⟨kb,0,none⟩)]] w (zWl w R C (genM R C (fun i j=>k*ent M i j))):=by
 have hmf:∀(fn:Fn) (first cap:Array Value) (w:World),(Instr.makeFunc fn first cap).run Tryz.prog w= .ok (.func fn first cap) w:=fun _ _ _ _=>rfl
 have h0:=h;obtain⟨A',eA,h⟩:=h;obtain rfl:A=A':=by
  injection eA with eA
  simp only[Array.mk.injEq,List.cons.injEq]at eA;exact eA.2.2.1
 obtain⟨ao,n,cap,rfl,e2,e3,e4,-⟩:=id h;have HF:=xgv hF;have HV:=xgv hF.valid;have HS:=xgv hS;have HK:=xgv s2;have HH:=xgv h;have HH0:=xgv h0;obtain⟨G,hG⟩:∃G:Nat->Nat->Int,(fun i j=>k*ent M i j)=G:=⟨_,rfl⟩;rw[hG];have HG:=xgv hG;clear hF hS s2 hG e2 h h0 eA;have hl1:=zGc (.int .i64 R) (.int .i64 C) (.slice ao n cap) (.int .i64 R) (.int .i64 C) (.slice ao n cap);have hl2:=zEO (.int .i64 R) (.int .i64 C) (.slice ao n cap);have hl3:=zEd R C;go_enter Tryz.func156,Tryz.ntmps156;go_upto_region 1 with(fail)
 refine zD ?_;intro W0 hW0;obtain⟨hB0,bx1,bx2,bf,br,hs0⟩:=zMa hW0;obtain⟨c1,c2,c3,c4,c5,c6⟩:=bx1.three;obtain⟨d1,d2,d3,d4,d5,d6⟩:=bx2.three;clear hW0;refine zCn [pcD 2 [] (zXd (.int .i64 R) (.int .i64 C) (.slice ao n cap) (.int .i64 R) (.int .i64 C) (.slice ao n cap)),pcD 3 [2] (fun _ v=>v= .bool true),pcD 7 [] (zVM (.int .i64 R) (.int .i64 C) (.slice ao n cap)),pcD 8 [7] (zEV R C),pcD 10 [] (zVM (.int .i64 R) (.int .i64 C) (.slice ao n cap)),pcD 11 [10] (zEV R C),pcD 12 [8,11] (fun _ v=>v= .bool true)] ?_;refine sRd ?_;refine sRc (fun wS hI Gk hG=>?_) (fun va2 _=>?_)
 ·go_simp
  exact⟨hG _ _ ⟨_,rfl,qQ _ _ _⟩,(zA _ _).alloc (xgf _) _⟩
 refine sRc (fun wS hI ha2 Gk hG=>?_) (fun _ hv=>?_)
 ·obtain⟨g2,rfl,gb2⟩:=ha2
  go_simp;refine(zNt g2 2 R C R C _ _ M M _ gb2 (xgf _) oM ((HH0.out.below hB0).below hI.bel) ((HH0.out.below hB0).below hI.bel) HV.out HV.out).mono ?_;rintro e wa ⟨v,rfl,hv,hba⟩;exact⟨_,rfl,hG _ _ hv,hba⟩
 obtain⟨_,-,rfl⟩:=hv;refine sRd ?_;refine sRc (fun wS hI Gk hG=>?_) (fun va7 _=>?_)
 ·go_simp
  exact⟨hG _ _ ⟨_,rfl,qQ _ _ _⟩,(zA _ _).alloc (xgf _) _⟩
 refine sRc (fun wS hI ha7 Gk hG=>?_) (fun va8 _=>?_)
 ·obtain⟨g7,rfl,gb7⟩:=ha7
  go_simp;refine(zEy g7 1 R C _ _ gb7 ⟨_,_,_,rfl⟩ (xgf _) oM).mono ?_;rintro e wa ⟨v,rfl,hv,hba⟩;exact⟨_,rfl,hG _ _ hv,hba⟩
 refine sRd ?_;refine sRc (fun wS hI Gk hG=>?_) (fun va10 _=>?_)
 ·go_simp
  exact⟨hG _ _ ⟨_,rfl,qQ _ _ _⟩,(zA _ _).alloc (xgf _) _⟩
 refine sRc (fun wS hI ha10 Gk hG=>?_) (fun va11 _=>?_)
 ·obtain⟨g10,rfl,gb10⟩:=ha10
  go_simp;refine(zEy g10 1 R C _ _ gb10 ⟨_,_,_,rfl⟩ (xgf _) oM).mono ?_;rintro e wa ⟨v,rfl,hv,hba⟩;exact⟨_,rfl,hG _ _ hv,hba⟩
 refine sRc (fun wS hI ha8 ha11 Gk hG=>?_) (fun _ hv=>?_)
 ·go_simp
  refine(zKE _ _ R C _ ha8 ha11).mono ?_;rintro e wa ⟨v,rfl,hv,hba⟩;exact⟨_,rfl,hG _ _ hv,hba⟩
 obtain⟨_,-,rfl⟩:=hv;refine sRd ?_;refine sRe ?_;intro w1 hbw1 ha2 _ ha7 ha8 ha10 ha11 _;have hBt:=nx hB0 hbw1;have bx1:=bx1.below hbw1;have bx2:=bx2.below hbw1;have bf:=bf.below hbw1;have br:=br.below hbw1;have hszb:=hBt.size;have hszb1:=hbw1.size;clear c1 c2 c3 c4 c5 c6 d1 d2 d3 d4 d5 d6 ha2 ha7 ha8 ha10 ha11;obtain⟨c1,c2,c3,c4,c5,c6⟩:=bx1.three;obtain⟨d1,d2,d3,d4,d5,d6⟩:=bx2.three;go_wp2_with fail
 refine(zQo _ M R C k (w.heap.size+1+1) kb x y w1 (HH.out.below hBt) HF.out hR hC bf (hk.below hBt) (hkv.ext (lx hBt)) HS.out HK.out).mono ?_;rintro e w2 ⟨rfl,⟨bs,hbl,ho⟩,hb2⟩;rw[HG.out]at ho;have hBt2:=nx hBt hb2;have bx1:=bx1.below hb2;have br:=br.below hb2;clear c1 c2 c3 c4 c5 c6 d1 d2 d3 d4 d5 d6;obtain⟨c1,c2,c3,c4,c5,c6⟩:=bx1.three;obtain⟨r1,r2,r3,r4,r5,r6⟩:=br.three;have lr:=br.lt;go_wp2;refine bodyPost_ret (zDk rfl _ rfl (br.put3 _ _ _) rfl) rfl ⟨_,bs,rfl,⟨hbl,_,rfl,?_⟩,yJ (yJ (yJ hBt2 oM 0 _) oM 1 _) oM 2 _⟩;exact(ho.keep (fun k hk=>zAe _ _ k _ _ _ oM) (br.lext3 dE _ _ _)).mono oM
theorem zJz(v kv:Value)(M:List (List Int))(R C:Nat)(k:Int)(w:World)(h:zH2 w v R C M)(hF:zBc R C M)(hk:jT w kv k)(hR:R<=1000000)(hC:C<=1000000)
  (hS:∀r∈M,∀z∈r,Sm z) (s2:Sm k):
  Calls Tryz.prog 114 #[v,kv] w (zEo w R C (genM R C (fun i j=>k*ent M i j))):=by
 have hmf:∀(fn:Fn) (first cap:Array Value) (w:World),(Instr.makeFunc fn first cap).run Tryz.prog w= .ok (.func fn first cap) w:=fun _ _ _ _=>rfl
 have h0:=h;obtain⟨A,rfl,h⟩:=h;obtain⟨ao,n,cap,rfl,e2,e3,e4,-⟩:=id h;obtain⟨kn,ka,kl,kc,kx,rfl,hkx⟩:=id hk;have HF:=xgv hF;have HS:=xgv hS;have HK:=xgv s2;clear hF hS s2 hkx e2;obtain⟨G,hG⟩:∃G:Nat->Nat->Int,(fun i j=>k*ent M i j)=G:=⟨_,rfl⟩;rw[hG];have HG:=xgv hG;clear hG;go_enter Tryz.func114,Tryz.ntmps114;go_upto_region 1 with(fail)
 refine zD ?_;intro W0 hW0;obtain⟨hB0,bx1,bk,br,hs0⟩:=zCH hW0;obtain⟨c1,c2,c3,c4,c5,c6⟩:=bx1.three;clear hW0;go_wp2_with fail
 refine(zTL _ M R C k (w.heap.size+1) _ _ W0 (h0.below hB0) HF.out hR hC bk (hk.ext (lx hB0)) HS.out HK.out).mono ?_;rintro e w1 ⟨u,bs,rfl,⟨hbl,A2,rfl,ho⟩,hb1⟩;rw[HG.out]at ho;obtain⟨oo,on,oc,rfl,-,-,-,-⟩:=id ho.rows;have hBt:=nx hB0 hb1;have br:=br.below hb1;have hszb:=hb1.size;clear c1 c2 c3 c4 c5 c6;go_upto_region 2 with(fail)
 refine zD ?_;intro W3 hW3;obtain⟨hB3,T5,hs3⟩:=qM hW3;have br:=br.below hB3;have ho:=ho.below hB3;have hBt:=nx hBt hB3;obtain⟨c1,c2,c3,c4,c5,c6⟩:=T5.three;obtain⟨r1,r2,r3,r4,r5,r6⟩:=br.three;have lr:=br.lt;clear hW3;go_wp2;refine zAl rfl rfl rfl (br.put3 _ _ _) ⟨_,bs,rfl,⟨hbl,_,rfl,?_⟩,yJ (yJ (yJ hBt oM 0 _) oM 1 _) oM 2 _⟩;exact(ho.keep (fun k hk=>zAe _ _ k _ _ _ oM) (br.lext3 dE _ _ _)).mono oM
theorem zPf(v kv:Value)(M:List (List Int))(R C:Nat)(k:Int)(w:World)(h:zAO w v R C M)(hF:zBc R C M)(hk:jT w kv k)(hR:R<=1000000)(hC:C<=1000000)
  (hS:∀r∈M,∀z∈r,Sm z) (s2:Sm k):
  Calls Tryz.prog 114 #[v,kv] w (zEo w R C (genM R C (fun i j=>k*ent M i j))):=zJz v kv M R C k w h.off hF hk hR hC hS s2
def zHY(zs:List Int)(M:List (List Int))(m j:Nat):Int:=zSe (fun t=>zs.getD t 0*ent M t j) m
def zQX(zs:List Int)(M:List (List Int))(m C:Nat):Prop:=∀j,j<C->∀t,t<m->Sm (zs.getD t 0)/\Sm (ent M t j)/\Sm (zs.getD t 0*ent M t j)/\Sm (zHY zs M t j)
theorem zIv(zs:List Int)(M:List (List Int))(m j:Nat):zHY zs M (m+1) j=zHY zs M m j+zs.getD m 0*ent M m j:=rfl
theorem zSN(w:World)(n:Nat)(f:Nat->Int)(hf:∀t,t<n->f t=0):jQ (w.alloc (.cells (zeroCells n) tI)) w.heap.size (yL n f):=by
 have h4:=zG4 w n;have h5:List.replicate n (0:Int)=yL n f:=by
  apply qO;simp[yL];intro i h1 h2;simp[yL]at h2;simp[yL,hf i h2]
 rwa[h5]at h4
theorem zPg(v mv:Value)(zs:List Int)(M:List (List Int))(m C:Nat)(w:World)(hv0:zBm w v zs)(hM:zAO w mv m C M)(hl:zs.length=m)(hF:zBc m C M)(hm:m<=1000000)(hC:C<=1000000)(hS:zQX zs M m C):
  Calls Tryz.prog 111 #[v,mv] w fun e w'=>∃v,e= .returned v/\zGm w.heap.size C (yL C (zHY zs M m)) w' v/\Below w.heap.size w w':=by
 obtain⟨A,rfl,hM⟩:=hM;obtain⟨ao,n,cap,rfl,e2,e3,e4,-⟩:=id hM;obtain rfl:m=n:=by rw[<-e2,hF.1]
 obtain⟨vo,n1,vcap,rfl,f1,f3,f4,-⟩:=id hv0;obtain rfl:m=n1:=by omega
 have hmk:=fun W=>mkI (C:Int) C rfl oM W
 have HL:=xgv hl;have HF:=xgv hF;have HS:=xgv hS;clear hl hF hS e2 f1;go_enter Tryz.func111,Tryz.ntmps111;go_upto_region 1 with(fail)
 refine zD ?_;intro W0 hW0;obtain⟨hB0,bx,hs0⟩:=qM hW0;obtain⟨c1,c2,c3,c4,c5,c6⟩:=bx.three;clear hW0;go_upto_region 2 with(fail)
 refine zD ?_;intro W1 hW1;obtain⟨hB1,-,hs1⟩:=qM hW1;have hr:jQ W1 W0.heap.size (yL C (zHY zs M 0)):=by
  rw[hW1.out];exact zSN W0 C _ (fun _ _=>rfl)
 have bx:=bx.below hB1;have hB:=nx hB0 hB1;clear hW1 hmk c1 c2 c3 c4 c5 c6;go_wp2;go_loopw [15] (fun iv wr=>∃i:Nat,i<=m/\iv= .int .i64 i/\Below w.heap.size w wr/\Blk wr w.heap.size tM #[.int .i64 m,.int .i64 C,.slice ao m cap]/\jQ wr W0.heap.size (yL C (zHY zs M i))) (fun iv _=>m-(intOf iv).toNat)
 case atStart=>exact⟨0,by omega,rfl,hB,bx,hr⟩
 obtain⟨i,hi,rfl,hb,bx,hr⟩:=hrel;have hB0s:=hB0.size;by_cases hlt:i<m
 ·obtain⟨b1,x,s1,a1,l1,k1,rfl,hbl1,hz1,p1,p2,hx⟩:=(hv0.below hb).cell (k:=i) (by rw[HL.out];exact hlt)
  have hzx:zAN (zs.getD i 0=x):=⟨zBu hz1⟩;have hbs:=hb.size;have lbx:=bx.lt;have lr:=hr.lt;clear hz1;go_upto_region 5 with(fail)
  refine zD ?_;intro W6 hW6;obtain⟨hB6,T7,hs6⟩:=qM hW6;obtain⟨d1,d2,d3,d4⟩:=T7.two;have hx:=hx.ext (lx hB6);have bx:=bx.below hB6;have hr:=hr.below hB6;have hb:=nx hb hB6;clear p1 p2 hW6;go_wp2_with fail
  refine(zAa _ x W6 hx.weak).mono ?_;rintro e w7 ⟨rfl,hb7⟩;have hx:=hx.ext (lx hb7);have bx:=bx.below hb7;have hr:=hr.below hb7;have T7:=T7.below hb7;have hb:=nx hb hb7;clear d1 d2 d3 d4;by_cases hx0:x=0
  ·rw[zBX hx0]
   have hq:zAN (yL C (zHY zs M i)=yL C (zHY zs M (i+1))):=⟨qX fun t _=>by rw[zIv,hzx.out,hx0,yB,jZ]⟩;clear hx0;go_wp2;go_roundw
   case rel=>exact⟨i+1,by omega,by simp,hb,bx,hq.out ▸ hr⟩
   case measure=>simp[intOf];omega
  have hc:=zCi hx0;obtain⟨k0,hk0⟩:∃k0,zAp x 0=k0:=⟨_,rfl⟩;rw[hk0]at hc ⊢
  clear hk0 hx0;obtain⟨b2,ra,rn,rc,ys,rfl,hbl2,hz2,o1,hv⟩:=hM.row (k:=i) (by rw[HF.out.1];exact hlt);have hyl:=HF.out.2 ys (xgd hz2);have hvl:=hv.len;obtain rfl:C=rn:=by omega
  have HZ:=xgv (And.intro hz2 hyl);have o1:=jF o1 hb;obtain⟨c1,c2,c3,c4,c5,c6⟩:=bx.three;obtain⟨hvl1,hvl2,hvl3⟩:=hvl;have hst:yL C (zHY zs M i)=yL C (yO (zHY zs M (i+1)) (zHY zs M i) 0):=qX fun t _=>by unfold yO;rw[if_neg oM]
  rw[hst]at hr;clear hz2 hyl hvl1 hst;go_wp2;rw[show(k0==0)=false by simpa using hc];clear hc o1 c1 c2 c3 c4 c5 c6;go_loopw [29] (fun jv wt=>∃j:Nat,j<=C/\jv= .int .i64 j/\Below w.heap.size w wt/\Blk wt w.heap.size tM #[.int .i64 m,.int .i64 C,.slice (some ⟨b2,0,none⟩) m cap]/\jQ wt W0.heap.size (yL C (yO (zHY zs M (i+1)) (zHY zs M i) j))/\Blk wt wr.heap.size tI #[.bool s1,.slice a1 l1 k1]/\jT wt (.agg #[.bool s1,.slice a1 l1 k1]) x) (fun jv _=>C-(intOf jv).toNat)
  case atStart=>exact⟨0,by omega,rfl,hb,bx,hr,T7,hx⟩
  rename World=>wt
  obtain⟨j,hj,rfl,hb,bx,hr,T7,hx⟩:=hrel;by_cases hjc:j<C
  ·obtain⟨b3,y,s2,a2,l2,k2,rfl,hbl3,hz3,q1,q2,hy⟩:=(hv.below hb).cell (k:=j) (by rw[HZ.out.2];exact hjc)
   have hzy:zAN (ent M i j=y):=⟨zGG HZ.out.1 hz3⟩;have hbs2:=hb.size;have lbx:=bx.lt;have lr:=hr.lt;have l7:=T7.lt;clear hz3;go_upto_region 9 with(fail)
   refine zD ?_;intro W8 hW8;obtain⟨hB8,T9,hs8⟩:=qM hW8;obtain⟨d1,d2,d3,d4⟩:=T9.two;have hx:=hx.ext (lx hB8);have hy:=hy.ext (lx hB8);have bx:=bx.below hB8;have hr:=hr.below hB8;have T7:=T7.below hB8;have hb:=nx hb hB8;clear q1 q2 hW8;go_wp2_with fail
   refine(zAa _ y W8 hy.weak).mono ?_;rintro e w9 ⟨rfl,hb9⟩;have hx:=hx.ext (lx hb9);have hy:=hy.ext (lx hb9);have bx:=bx.below hb9;have hr:=hr.below hb9;have T7:=T7.below hb9;have T9:=T9.below hb9;have hb:=nx hb hb9;clear d1 d2 d3 d4;by_cases hy0:y=0
   ·rw[zBX hy0]
    have hq:zAN (yL C (yO (zHY zs M (i+1)) (zHY zs M i) j)=yL C (yO (zHY zs M (i+1)) (zHY zs M i) (j+1))):=⟨qX fun t _=>by
     unfold yO;by_cases h1:t<j
     ·rw[if_pos h1,if_pos oM]
     by_cases h2:t=j
     ·subst h2
      rw[if_neg h1,if_pos oM,zIv,hzy.out,hy0,zZ,jZ]
     rw[if_neg h1,if_neg oM]⟩
    clear hy0;go_wp2;go_roundw
    case rel=>exact⟨j+1,by omega,by simp,hb,bx,hq.out ▸ hr,T7,hx⟩
    case measure=>simp[intOf];omega
   have hc2:=zCi hy0;obtain⟨k1',hk1⟩:∃k1,zAp y 0=k1:=⟨_,rfl⟩;rw[hk1]at hc2 ⊢
   clear hk1 hy0;obtain⟨n1,n2,n3,n4,r1,r2,-,-,hacc⟩:=hr.cell (yE hjc);have hua:yO (zHY zs M (i+1)) (zHY zs M i) j j=zHY zs M i j:=by unfold yO;rw[if_neg oM]
   rw[hua]at hacc;obtain⟨d1,d2,d3,d4⟩:=T7.two;obtain⟨e1,e2,e3',e4'⟩:=T9.two;have lbx:=bx.lt;have lr:=hr.lt;have l7:=T7.lt;have l9:=T9.lt;have hsm:=HS.out j hjc i hlt;rw[hzx.out,hzy.out]at hsm;have HSM:=xgv hsm;clear hsm hua;go_upto_region 10 with(fail)
   refine yX 11 [pcI 8 (x*y),pcD 9 [8] (fun w v=>jT w v (zHY zs M i j+x*y))] ?_;refine sRd ?_;refine sRc (fun wS hI Gk hG=>by go_simp;exact ck hG (zD4 _ _ x y _ (hx.ext hI.lext).weak (hy.ext hI.lext).weak HSM.out.1 HSM.out.2.1)) (fun va8 _=>?_);refine sRc (fun wS hI ha8 Gk hG=>by go_simp;exact ck hG (zHE _ _ (zHY zs M i j) (x*y) _ (hacc.ext hI.lext).weak ha8.weak HSM.out.2.2.2 HSM.out.2.2.1)) (fun va9 _=>?_);refine sRd ?_;refine sRe ?_;intro wv hbwv ha8 ha9;obtain⟨pn,pa,pl,pc,px,rfl,hpx⟩:=id ha9;have HPX:=xgw hpx;have hr:=hr.below hbwv;have bx:=bx.below hbwv;have T7:=T7.below hbwv;have hx:=hx.ext (lx hbwv);have hb:=nx hb hbwv;obtain⟨m1,m2,m3,m4,z1,z2,z3,z4,-⟩:=hr.cell (yE hjc);have hset:=hr.set (k:=j) (by rw[qC];exact hjc) ha9;rw[zII (by rw[zIv,hzx.out,hzy.out])]at hset;clear hpx d1 d2 d3 d4 e1 e2 e3' e4' r1 r2;go_wp2;go_roundw
   case rel=>exact⟨j+1,by omega,by simp,yJ (yJ hb oM _ _) oM _ _,(yS _ _ _ _ _ _ _ oM).trans bx,hset.1,(yS _ _ _ _ _ _ _ oM).trans T7,hx.ext hset.2⟩
   case measure=>simp[intOf];omega
  obtain rfl:j=C:=by omega
  have hq:yL j (yO (zHY zs M (i+1)) (zHY zs M i) j)=yL j (zHY zs M (i+1)):=qX fun t ht=>by unfold yO;rw[if_pos ht]
  rw[hq]at hr;go_wp2;go_roundw
  case rel=>exact⟨i+1,by omega,by simp,hb,bx,hr⟩
  case measure=>simp[intOf];omega
 obtain rfl:i=m:=by omega
 go_wp2;go_ret;exact⟨_,rfl,⟨_,rfl,hB0s,hr⟩,hb⟩
theorem zRl(w:World):
  CallsD Tryz.prog 110 #[] .returning w fun e u' w'=>e= .returned (.tuple #[])/\u'= .returning/\w'=w:=by
 refine callsD_of_wpS Tryz.func110 rfl fun c₀ cs hu=>?_
 apply wpS_region;simp[wpOpsS,go_sem,recoverD,hu,Tryz.ntmps110,bodyPostS,results,Tryz.results110];cases c₀;simp_all
def zKR(R C:Nat):World->Value->Prop:=fun w v=>∃g,v= .slice (some ⟨g,0,none⟩) R R/\Blk w g tR (zBA R C [])
def zQU:World->Value->Prop:=fun w v=>∃g,v= .pointer (some ⟨g,0,none⟩)/\Blk w g tM #[.int .i64 0,.int .i64 0,.slice none 0 0]
def zGT(n:Nat)(P:World->Value->Prop):World->Value->Prop:=fun w v=>P w v/\∀b o,(v= .pointer (some ⟨b,o,none⟩)∨∃l c,v= .slice (some ⟨b,o,none⟩) l c)->n<=b
theorem zGI(n R C:Nat):zAQ (zGT n (zKR R C)):=fun _ _ _ x ⟨⟨g,h1,h2⟩,h3⟩=>⟨⟨g,h1,h2.below x⟩,h3⟩
theorem zKg(n:Nat):zAQ (zGT n zQU):=fun _ _ _ x ⟨⟨g,h1,h2⟩,h3⟩=>⟨⟨g,h1,h2.below x⟩,h3⟩
def zMi(n R C:Nat):World->Value->Prop:=fun w v=>∃s,v= .agg #[.int .i64 R,.int .i64 C,s]/\zGT n (zKR R C) w s
theorem zJM(n R C:Nat):zAQ (zMi n R C):=fun w w' _ x ⟨s,h1,h2⟩=>⟨s,h1,zGI n R C w w' s x h2⟩
theorem zHz.times{A B:List (List Int)}{m:Nat}(h:zHz A B R m C)(hi:i<R)(hz:A[i]?=some zs):zQX zs B m C:=by
 intro j hj t ht;have h1:=h i hi j hj t ht;have he:∀s,ent A i s=zs.getD s 0:=fun s=>by unfold ent;rw[zBu hz]
 unfold zJ1 at h1;simp only[he]at h1;exact h1
theorem zTq(v1 v2:Value)(R m C:Nat)(M1 M2:List (List Int))(w:World)(h1:zAO w v1 R m M1)(h2:zAO w v2 m C M2)(hF1:zBc R m M1)(hF2:zBc m C M2)(hR:R<=1000000)(hm:m<=1000000)(hC:C<=1000000)(hS:zHz M1 M2 R m C):
  Calls Tryz.prog 65 #[v1,v2] w (zWl w R C (genM R C (zJ1 M1 M2 m))):=by
 have hmf:∀(fn:Fn) (first cap:Array Value) (w:World),(Instr.makeFunc fn first cap).run Tryz.prog w= .ok (.func fn first cap) w:=fun _ _ _ _=>rfl
 have H1:=xgv h1;have H2:=xgv h2;obtain⟨A1,rfl,h1⟩:=h1;obtain⟨A2,rfl,h2⟩:=h2;obtain⟨ao,n,cap,rfl,e2,e3,e4,-⟩:=id h1;obtain⟨bo,q,bcap,rfl,g2,g3,g4,-⟩:=id h2;obtain rfl:R=n:=by rw[<-e2,hF1.1]
 obtain rfl:m=q:=by rw[<-g2,hF2.1]
 have hdv:decide (zBL R m M1/\zBL m C M2)=true:=decide_eq_true ⟨hF1.valid,hF2.valid⟩;have HS:=xgv hS;have HF1:=xgv hF1;have HF2:=xgv hF2;obtain⟨G,hG⟩:∃G:Nat->Nat->Int,zJ1 M1 M2 m=G:=⟨_,rfl⟩;rw[hG];have HG:=xgv hG;have hmk:=fun W=>mkR (R:Int) R rfl oM W
 clear hF1 hF2 hS e2 g2 hG;have DV:=xgv hdv;clear hdv;go_enter_defers Tryz.func65,Tryz.ntmps65;go_upto_region 2 with(fail)
 refine zD ?_;intro W0 hW0;obtain⟨hB0,bx1,bx2,br,hs0⟩:=zCH hW0;obtain⟨c1,c2,c3,c4,c5,c6⟩:=bx1.three;obtain⟨d1,d2,d3,d4,d5,d6⟩:=bx2.three;clear hW0;go_wp2_with fail
 refine(zHe _ 2 R m m C _ _ M1 M2 _ (qQ _ _ _) (xgf _) oM ((H1.out.below hB0).below ((zA _ _).alloc (xgf _) _)).off ((H2.out.below hB0).below ((zA _ _).alloc (xgf _) _)).off).mono ?_;rintro e w1 ⟨rfl,hb1⟩;rw[DV.out];have hb01:Below W0.heap.size W0 w1:=nx ((zA _ _).alloc (xgf _) _) hb1;have hB:=nx hB0 hb01;have bx1:=bx1.below hb01;have bx2:=bx2.below hb01;have br:=br.below hb01;have hsz1:=hb01.size;clear c1 c2 c3 c4 c5 c6 d1 d2 d3 d4 d5 d6;obtain⟨c1,c2,c3,c4,c5,c6⟩:=bx1.three;obtain⟨d1,d2,d3,d4,d5,d6⟩:=bx2.three;have hl1:=zGI w1.heap.size R C;have hl2:=zKg w1.heap.size;have hl3:=zJM w1.heap.size R C;go_upto_region 4 with(fail)
 refine yX 9 [pcD 6 [] (zGT w1.heap.size (zKR R C)),pcD 7 [6] (zMi w1.heap.size R C),pcD 8 [] (zGT w1.heap.size zQU)] ?_;refine sRd ?_;refine sRc (fun wS hI Gk hG=>?_) (fun va6 _=>?_)
 ·have hmkS:=hmk wS
  go_simp;exact⟨hG _ _ ⟨⟨_,rfl,by rw[<-zEj];exact qQ _ _ _⟩,fun b o hh=>by have:=hI.bel.size;rcases hh with hh|⟨l,c,hh⟩;cases hh;cases hh;exact this⟩,(zA _ _).alloc (xgf _) _⟩
 refine sRc (fun wS hI ha6 Gk hG=>?_) (fun va7 _=>?_)
 ·have h6':zGT w1.heap.size (zKR R C) wS va6:=ha6
  obtain⟨⟨g6,rfl,gb6⟩,gl6⟩:=id h6';go_simp;exact⟨hG _ _ ⟨_,rfl,h6'⟩,zA _ _⟩
 refine sRc (fun wS hI Gk hG=>?_) (fun va8 _=>?_)
 ·go_simp
  exact⟨hG _ _ ⟨⟨_,rfl,qQ _ _ _⟩,fun b o hh=>by have:=hI.bel.size;rcases hh with hh|⟨l,c,hh⟩;cases hh;exact this;cases hh⟩,(zA _ _).alloc (xgf _) _⟩
 refine sRe ?_;intro w2 hbw2 ha6 ha7 ha8;obtain⟨sv,rfl,⟨g7,rfl,gb7⟩,gl7⟩:zMi w1.heap.size R C w2 va7:=ha7;obtain⟨⟨g8,rfl,gb8⟩,gl8⟩:zGT w1.heap.size zQU w2 va8:=ha8;have gl7:=gl7 g7 0 (.inr ⟨_,_,rfl⟩);have gl8:=gl8 g8 0 (.inl rfl);have hB:=nx hB hbw2;have bx1:=bx1.below hbw2;have bx2:=bx2.below hbw2;have br:=br.below hbw2;have hne:g7≠g8:=by
  rintro rfl;have q1:w2.heap[g7]?=some (.cells _ tR (0,0)):=gb7;have q2:w2.heap[g7]?=some (.cells _ tM (0,0)):=gb8;rw[q1]at q2;injection q2 with q2
  injection q2 with _ ht
  exact absurd ht dE
 obtain⟨f1,f2,f3,f4,f5,f6⟩:=gb8.three;clear c1 c2 c3 c4 c5 c6 d1 d2 d3 d4 d5 d6 ha6 hmk;go_upto_region 5 with(fail)
 refine zD ?_;intro W3 hW3;have hx3:zBq w2 W3:=by rw[hW3.out];exact gb8.lext3 dE _ _ _
 have T6:Blk W3 g8 tM #[.int .i64 R,.int .i64 C,.slice (some ⟨g7,0,none⟩) R R]:=by rw[hW3.out];exact gb8.put3 _ _ _
 have hold:∀b,b≠g8->W3.heap[b]?=w2.heap[b]?:=fun b hb=>by rw[hW3.out];exact zAe _ _ _ _ _ _ hb
 have bx1:=(hold _ oM).trans bx1;have bx2:=(hold _ oM).trans bx2;have br:=(hold _ oM).trans br;have bR:=(hold _ hne).trans gb7;have hB3:Below w.heap.size w W3:=by rw[hW3.out];exact yJ (yJ (yJ hB oM 0 _) oM 1 _) oM 2 _
 replace bx1:Blk W3 w.heap.size tM #[.int .i64 R,.int .i64 m,.slice ao R cap]:=bx1;replace bx2:Blk W3 (w.heap.size+1) tM #[.int .i64 m,.int .i64 C,.slice bo m bcap]:=bx2;replace br:Blk W3 (w.heap.size+1+1) tM #[.int .i64 0,.int .i64 0,.slice none 0 0]:=br;replace bR:Blk W3 g7 tR (zBA R C []):=bR;obtain⟨c1,c2,c3,c4,c5,c6⟩:=bx1.three;clear hW3 hold hx3 f1 f2 f3 f4 f5 f6 gb7 gb8 hB;go_wp2;clear c1 c2 c3 c4 c5 c6;go_loopw [33] (fun iv wr=>∃(i:Nat) (bs:List Nat),i<=R/\iv= .int .i64 i/\bs.length=i/\Below w.heap.size w wr/\Blk wr (w.heap.size+1) tM #[.int .i64 m,.int .i64 C,.slice bo m bcap]/\Blk wr (w.heap.size+1+1) tM #[.int .i64 0,.int .i64 0,.slice none 0 0]/\Blk wr g8 tM #[.int .i64 R,.int .i64 C,.slice (some ⟨g7,0,none⟩) R R]/\Blk wr g7 tR (zBA R C bs)∧
  zAN (bs.Nodup/\∀t b,bs[t]?=some b->w1.heap.size<=b/\jQ wr b (yL C (G t)))) (fun iv _=>R-(intOf iv).toNat)
 case atStart=>exact⟨0,[],by omega,rfl,rfl,hB3,bx2,br,T6,bR,⟨⟨by simp,fun t b ht=>by simp at ht⟩⟩⟩
 obtain⟨i,bs,hi,rfl,hbl,hb,bx2,br,T6,bR,hH⟩:=hrel;obtain⟨d1,d2,d3,d4,d5,d6⟩:=bx2.three;obtain⟨f1,f2,f3,f4,f5,f6⟩:=T6.three;by_cases hlt:i<R
 ·obtain⟨b1,ra,rn,rc,zs,rfl,hbl1,hz,p1,hv⟩:=h1.row (k:=i) (by rw[HF1.out.1];exact hlt)
  have hzl:=HF1.out.2 zs (xgd hz);have p1:=jF p1 hb;have hv:=hv.below hb;have TS:=xgv (HS.out.times hlt hz);have hgi:zAN (yL C (zHY zs M2 m)=yL C (G i)):=⟨qX fun j _=>by rw[<-HG.out];unfold zHY zJ1 ent;rw[zBu hz]⟩;have HZL:=xgv hzl;have l2:=bx2.lt;have l6:=T6.lt;have lR:=bR.lt;have hszr:=hb.size;have hB1s:=hb1.size;have hlast:=zJq wr.heap.size C (yL C (G i));clear hz hzl;go_upto_region 8 with(fail)
  refine yX 7 [pcD 5 [] (zGm wr.heap.size C (yL C (G i)))] ?_;refine sRd ?_;refine sRc (fun wS hI Gk hG=>?_) (fun vb5 _=>?_)
  ·go_simp
   refine(zPg _ _ zs M2 m C _ (hv.below hI.bel) ((H2.out.below hb).below hI.bel) HZL.out HF2.out hm hC TS.out).mono ?_
   (rintro e wa ⟨v,rfl,⟨g,e1,e2,e3⟩,hba⟩;rw[hgi.out]at e3;have hv:zGm wr.heap.size C (yL C (G i)) wa v:=⟨g,e1,zB hI.bel.size e2,e3⟩)
   exact⟨_,rfl,hG _ _ hv,hba⟩
  refine sRd ?_;refine sRe ?_;intro w9 hbw9 hb5;obtain⟨g,rfl,hg1,hg2⟩:zGm wr.heap.size C (yL C (G i)) w9 vb5:=hb5;have bR:=bR.below hbw9;have bx2:=bx2.below hbw9;have br:=br.below hbw9;have T6:=T6.below hbw9;have z1:=bR.frozen i;obtain⟨u,z2⟩:∃u,w9.cell? ⟨g7,i,none⟩=some u:=by
   rw[bR.cell i];exact⟨_,Array.getElem?_eq_getElem (by rw[zCl oM];exact hlt)⟩
  have hset:=bR.set_ i (.slice (some ⟨g,0,none⟩) C C);rw[<-hbl,zFf oM,hbl]at hset;have hx1:=bR.lext dE i (.slice (some ⟨g,0,none⟩) C C);have HG2:=xgv hg2;have HH:=xgv hH.out;have hbrl:=br.lt;have hrow7:∀(t b:Nat),bs[t]?=some b->b≠g7:=fun t b ht=>by
   rintro rfl;obtain⟨cs,q1,-⟩:=((HH.out.2 t b ht).2.below hbw9);have q2:w9.heap[b]?=some (.cells _ tR (0,0)):=bR;rw[q2]at q1;injection q1 with q1
   injection q1 with _ ht
   exact absurd ht dE
  have HR7:=xgv hrow7;clear hg2 p1 d1 d2 d3 d4 d5 d6 f1 f2 f3 f4 f5 f6 hrow7;go_wp2;go_roundw
  case rel=>
   refine⟨i+1,bs++ [g],by omega,by simp,by simp[hbl],yJ (nx hb hbw9) oM _ _,(zW _ _ _ _ _ oM).trans bx2,(zW _ _ _ _ _ oM).trans br,(zW _ _ _ _ _ oM).trans T6,hset,⟨⟨?_,?_⟩⟩⟩
   ·rw[yF]
    refine⟨HH.out.1,by simp,fun x hx y hy=>?_⟩;simp at hy;subst hy;obtain⟨t,ht,e⟩:=qS hx;have:=(HH.out.2 t x (by rw[xga ht,e])).2.lt;omega
   intro t b ht;by_cases e:t=i
   ·subst e
    rw[List.getElem?_append_right oM,hbl]at ht;simp at ht;subst ht;exact⟨by omega,HG2.out.old (zW _ _ _ _ _ oM) hx1⟩
   have htl:t<bs.length:=by
    have h5:=(xge.1 ht).1;simp at h5;omega
   rw[List.getElem?_append_left htl]at ht;obtain⟨h6,h7⟩:=HH.out.2 t b ht;exact⟨h6,(h7.below hbw9).old (zW _ _ _ _ _ (HR7.out t b ht)) hx1⟩
  case measure=>simp[intOf];omega
 obtain rfl:i=R:=by omega
 have HH:=xgv hH.out;obtain⟨r1,r2,r3,r4,r5,r6⟩:=br.three;have lr:=br.lt;have l6:=T6.lt;go_wp2;refine leaves_cons (f:=110) (args:=#[]) sI (by simp[go_sem]) ?_;refine(zRl _).mono ?_;rintro e u' w'' ⟨rfl,rfl,rfl⟩;have hx:=br.lext3 dE (.int .i64 i) (.int .i64 C) (.slice (some ⟨g7,0,none⟩) i i);refine⟨_,zDk rfl _ rfl (br.put3 _ _ _) rfl,_,bs,rfl,⟨hbl,_,rfl,?_⟩,yJ (yJ (yJ hb oM 0 _) oM 1 _) oM 2 _⟩;refine qA.ofPart ((zAe _ _ _ _ _ _ oM).trans bR) hbl HH.out.1 (fun t b ht=>?_) (by simp[genM]) oM hC hR;obtain⟨h6,h7⟩:=HH.out.2 t b ht;have hti:t<i:=by have:=(xge.1 ht).1;omega
 exact⟨by omega,_,zC2 i C G hti,by simp,h7.old (zAe _ _ _ _ _ _ oM) hx⟩
theorem zSM{ys:List Int}(h1:zs.length=C)(h2:ys.length=C):(∀j,j<C->decide (zs.getD j 0=ys.getD j 0)=true)↔zs=ys:=by
 refine⟨fun h=>?_,fun h j _=>by rw[h];simp⟩;apply qO;omega;intro j a b;have:=of_decide_eq_true (h j oM);simpa[xgb,a,b]using this
theorem zPT(v1 v2:Value)(R C:Nat)(M1 M2:List (List Int))(w:World)(h1:zAO w v1 R C M1)(h2:zAO w v2 R C M2)(hF1:zBc R C M1)(hF2:zBc R C M2)(hC:C<=1000000):
  Calls Tryz.prog 80 #[v1,v2] w fun e w'=>e= .returned (.bool (decide (M1=M2)))/\Below w.heap.size w w':=by
 have H1:=xgv h1;have H2:=xgv h2;obtain⟨A1,rfl,h1⟩:=h1;obtain⟨A2,rfl,h2⟩:=h2;obtain⟨ao,n,cap,rfl,e2,e3,e4,-⟩:=id h1;obtain⟨bo,q,bcap,rfl,g2,g3,g4,-⟩:=id h2;obtain rfl:R=n:=by rw[<-e2,hF1.1]
 obtain rfl:R=q:=by rw[<-g2,hF2.1]
 obtain⟨ans,hans⟩:∃ans:Bool,decide (M1=M2)=ans:=⟨_,rfl⟩;rw[hans];have HA:=xgv hans;have HF1:=xgv hF1;have HF2:=xgv hF2;have HV1:=xgv hF1.valid;have HV2:=xgv hF2.valid;clear hans hF1 hF2 e2 g2;have hl1:=zGc (.int .i64 R) (.int .i64 C) (.slice ao R cap) (.int .i64 R) (.int .i64 C) (.slice bo R bcap);have hl2:=zEO (.int .i64 R) (.int .i64 C) (.slice ao R cap);have hl4:=zEO (.int .i64 R) (.int .i64 C) (.slice bo R bcap);have hl3:=zEd R C;go_enter Tryz.func80,Tryz.ntmps80;go_upto_region 1 with(fail)
 refine zD ?_;intro W0 hW0;obtain⟨hB0,bx1,bx2,hs0⟩:=zAd hW0;obtain⟨c1,c2,c3,c4,c5,c6⟩:=bx1.three;obtain⟨d1,d2,d3,d4,d5,d6⟩:=bx2.three;clear hW0;refine zCn [pcD 2 [] (zXd (.int .i64 R) (.int .i64 C) (.slice ao R cap) (.int .i64 R) (.int .i64 C) (.slice bo R bcap)),pcD 3 [2] (fun _ v=>v= .bool true),pcD 7 [] (zVM (.int .i64 R) (.int .i64 C) (.slice ao R cap)),pcD 8 [7] (zEV R C),pcD 10 [] (zVM (.int .i64 R) (.int .i64 C) (.slice bo R bcap)),pcD 11 [10] (zEV R C),pcD 12 [8,11] (fun _ v=>v= .bool true)] ?_;refine sRd ?_;refine sRc (fun wS hI Gk hG=>?_) (fun va2 _=>?_)
 ·go_simp
  exact⟨hG _ _ ⟨_,rfl,qQ _ _ _⟩,(zA _ _).alloc (xgf _) _⟩
 refine sRc (fun wS hI ha2 Gk hG=>?_) (fun _ hv=>?_)
 ·obtain⟨g2,rfl,gb2⟩:=ha2
  go_simp;refine(zNt g2 2 R C R C _ _ M1 M2 _ gb2 (xgf _) oM ((H1.out.below hB0).below hI.bel).off ((H2.out.below hB0).below hI.bel).off HV1.out HV2.out).mono ?_;rintro e wa ⟨v,rfl,hv,hba⟩;exact⟨_,rfl,hG _ _ hv,hba⟩
 obtain⟨_,-,rfl⟩:=hv;refine sRd ?_;refine sRc (fun wS hI Gk hG=>?_) (fun va7 _=>?_)
 ·go_simp
  exact⟨hG _ _ ⟨_,rfl,qQ _ _ _⟩,(zA _ _).alloc (xgf _) _⟩
 refine sRc (fun wS hI ha7 Gk hG=>?_) (fun va8 _=>?_)
 ·obtain⟨g7,rfl,gb7⟩:=ha7
  go_simp;refine(zEy g7 1 R C _ _ gb7 ⟨_,_,_,rfl⟩ (xgf _) oM).mono ?_;rintro e wa ⟨v,rfl,hv,hba⟩;exact⟨_,rfl,hG _ _ hv,hba⟩
 refine sRd ?_;refine sRc (fun wS hI Gk hG=>?_) (fun va10 _=>?_)
 ·go_simp
  exact⟨hG _ _ ⟨_,rfl,qQ _ _ _⟩,(zA _ _).alloc (xgf _) _⟩
 refine sRc (fun wS hI ha10 Gk hG=>?_) (fun va11 _=>?_)
 ·obtain⟨g10,rfl,gb10⟩:=ha10
  go_simp;refine(zEy g10 1 R C _ _ gb10 ⟨_,_,_,rfl⟩ (xgf _) oM).mono ?_;rintro e wa ⟨v,rfl,hv,hba⟩;exact⟨_,rfl,hG _ _ hv,hba⟩
 refine sRc (fun wS hI ha8 ha11 Gk hG=>?_) (fun _ hv=>?_)
 ·go_simp
  refine(zKE _ _ R C _ ha8 ha11).mono ?_;rintro e wa ⟨v,rfl,hv,hba⟩;exact⟨_,rfl,hG _ _ hv,hba⟩
 obtain⟨_,-,rfl⟩:=hv;refine sRd ?_;refine sRe ?_;intro w1 hbw1 ha2 _ ha7 ha8 ha10 ha11 _;have hBt:=nx hB0 hbw1;have bx1:=bx1.below hbw1;have bx2:=bx2.below hbw1;clear c1 c2 c3 c4 c5 c6 d1 d2 d3 d4 d5 d6 ha2 ha7 ha8 ha10 ha11;obtain⟨c1,c2,c3,c4,c5,c6⟩:=bx1.three;go_wp2;clear c1 c2 c3 c4 c5 c6;go_loopw [26] (fun iv wr=>∃i:Nat,i<=R/\iv= .int .i64 i/\Below w.heap.size w wr/\Blk wr (w.heap.size+1) tM #[.int .i64 R,.int .i64 C,.slice bo R bcap]/\zAN (M1.take i=M2.take i)) (fun iv _=>R-(intOf iv).toNat)
 case atStart=>exact⟨0,by omega,rfl,hBt,bx2,⟨by rw[jL,jL]⟩⟩
 obtain⟨i,hi,rfl,hb,bx2,hsame⟩:=hrel;obtain⟨d1,d2,d3,d4,d5,d6⟩:=bx2.three;by_cases hlt:i<R
 ·obtain⟨b1,ra,rn,rc,zs,rfl,hbl1,hz,p1,hv⟩:=h1.row (k:=i) (by rw[HF1.out.1];exact hlt)
  obtain⟨b2,sa,sn,sc,ys,rfl,hbl2,hy,q1,hu⟩:=h2.row (k:=i) (by rw[HF2.out.1];exact hlt);have hzl:=HF1.out.2 zs (xgd hz);have hyl:=HF2.out.2 ys (xgd hy);have HZ:=xgv hz;have HY:=xgv hy;have HZL:=xgv hzl;have HYL:=xgv hyl;have p1:=jF p1 hb;have q1:=jF q1 hb;clear hz hy hzl hyl;go_wp2_with fail
  refine(zQm _ _ zs ys C wr (hv.below hb) (hu.below hb) HZL.out HYL.out hC).mono ?_;rintro e w5 ⟨rfl,hbl5,hb5⟩;go_wp2_with fail
  refine(zLa wr.heap.size C C _ w5 hbl5 hC (xgf _) oM).mono ?_;rintro e w6 ⟨rfl,hb6⟩;have hb:=nx (nx hb hb5) hb6;have bx2:=(bx2.below hb5).below hb6;by_cases he:zs=ys
  ·have hd:decide (¬ ∀j,j<C->decide (zs.getD j 0=ys.getD j 0)=true)=false:=decide_eq_false (fun hh=>hh ((zSM HZL.out HYL.out).2 he))
   have HE:=xgv he;rw[hd];clear hd he p1 q1 d1 d2 d3 d4 d5 d6;go_wp2;go_roundw
   case rel=>exact⟨i+1,by omega,by simp,hb,bx2,⟨zI6 hsame.out HZ.out HY.out HE.out⟩⟩
   case measure=>simp[intOf];omega
  have hd:decide (¬ ∀j,j<C->decide (zs.getD j 0=ys.getD j 0)=true)=true:=decide_eq_true (fun hh=>he ((zSM HZL.out HYL.out).1 hh));have HE:=xgv he;rw[hd];clear hd he p1 q1 d1 d2 d3 d4 d5 d6;go_wp2;go_ret;refine⟨?_,hb⟩;have h3:ans=false:=by rw[<-HA.out];exact decide_eq_false (zGl HZ.out HY.out HE.out)
  rw[h3];rfl
 obtain rfl:i=R:=by omega
 go_wp2;go_ret;refine⟨?_,hb⟩;have h4:=hsame.out;rw[jE (by rw[HF1.out.1];omega),jE (by rw[HF2.out.1];omega)]at h4;have h3:ans=true:=by rw[<-HA.out];exact decide_eq_true h4
 rw[h3];rfl
def zGC(R C:Nat)(F:Nat->Nat->Int)(lo hi:Nat):World->Value->Prop:=fun w v=>∃o c bs,v= .agg #[.int .i64 R,.int .i64 C,.slice o R c]/\Wri w (.slice o R c) R C bs F/\∀b,Zn (.slice o R c) bs b->lo<=b/\b<hi
theorem zGC.below{lo hi:Nat}{v:Value}(h:zGC R C F lo hi w v)(hb:Below w.heap.size w w'):zGC R C F lo hi w' v:=by
 obtain⟨o,c,bs,h1,h2,h3⟩:=h;exact⟨o,c,bs,h1,h2.below hb,h3⟩
theorem zEo.within{e:Ending}(h:zEo w R C (genM R C F) e w'):∃v,e= .returned v/\zGC R C F w.heap.size w'.heap.size w' v/\Below w.heap.size w w':=by
 obtain⟨v,bs,rfl,⟨hl,A',rfl,ho⟩,hb⟩:=h;have hw:Wri w' A' R C bs F:=ho.mono (zE _);obtain⟨o,c,rfl⟩:=hw.shape;exact⟨_,rfl,⟨o,c,bs,rfl,hw,fun b hz=>⟨ho.fresh hz,hw.zlt hz⟩⟩,hb⟩
structure MS where
 op:Nat
 slot:Nat
 R:Nat
 C:Nat
 F:Nat->Nat->Int
def zOn(N:Nat)(vs:List VS)(ms:List MS):Bool:=decide ((vs.map (·.slot))++(ms.map (·.slot))).Nodup && decide ((vs.map (·.op))++(ms.map (·.op))).Nodup && ((vs.map (·.slot))++(ms.map (·.slot))).all (fun s=>decide (s<N))
theorem zHp{α:Type}{xs ys:List α}(h:(xs++ys).Nodup){a b:α}(ha:a∈xs)(hb:b∈ys):a≠b:=(yF.1 h).2.2 a ha b hb
structure RG(W:World)(T0:Array Value)(vs:List VS)(ms:List MS)(L:Array Bool)(T:Array Value)(w:World):Prop where
 wf:zOn T0.size vs ms=true
 lv:∀s∈vs,zAQ s.P
 size:T.size=T0.size
 keep:∀j,(∀s∈vs,s.slot≠j)->(∀m∈ms,m.slot≠j)->T[j]?=T0[j]?
 bel:Below W.heap.size W w
 val:∀s∈vs,L[s.op]?=some true->∃v,T[s.slot]?=some v/\s.P w v
 gh:∃bot top:Nat->Nat,(∀m∈ms,L[m.op]?=some true->W.heap.size<=bot m.op/\top m.op<=w.heap.size/\∃v,T[m.slot]?=some v/\zGC m.R m.C m.F (bot m.op) (top m.op) w v)∧
  ∀m∈ms,∀m'∈ms,m.op<m'.op->L[m.op]?=some true->L[m'.op]?=some true->top m.op<=bot m'.op
section
variable {W:World} {T0:Array Value} {vs:List VS} {ms:List MS} {L:Array Bool} {T:Array Value} {w w':World}
theorem RG.parts(h:RG W T0 vs ms L T w):(vs.map (·.slot)).Nodup/\(vs.map (·.op)).Nodup/\(ms.map (·.slot)).Nodup/\(ms.map (·.op)).Nodup/\(∀s∈vs,∀m∈ms,s.slot≠m.slot/\s.op≠m.op)/\(∀s∈vs,s.slot<T0.size)/\(∀m∈ms,m.slot<T0.size):=by
 have hwf:=h.wf;unfold zOn at hwf;simp only[Bool.and_eq_true,decide_eq_true_eq,List.all_eq_true]at hwf;obtain⟨⟨w1,w2⟩,w3⟩:=hwf;refine⟨(yF.1 w1).1,(yF.1 w2).1,(yF.1 w1).2.1,(yF.1 w2).2.1,fun s hs m hm=>⟨zHp w1 (List.mem_map.2 ⟨s,hs,rfl⟩) (List.mem_map.2 ⟨m,hm,rfl⟩),zHp w2 (List.mem_map.2 ⟨s,hs,rfl⟩) (List.mem_map.2 ⟨m,hm,rfl⟩)⟩,
  fun s hs=>w3 _ (List.mem_append.2 (.inl (List.mem_map.2 ⟨s,hs,rfl⟩))),fun m hm=>w3 _ (List.mem_append.2 (.inr (List.mem_map.2 ⟨m,hm,rfl⟩)))⟩
theorem RG.start(hwf:zOn T0.size vs ms=true:=by kernel_rfl)(hv:∀s∈vs,zAQ s.P:=by repeat' (first|exact zDG _|exact zDx _|exact zBn _ _ _|exact zBa _|assumption|refine xgm.2 ⟨?_,?_⟩|exact xgn _)):RG W T0 vs ms (Array.replicate n false) T0 W.drew:=by
 have hf:∀k:Nat,(Array.replicate n false)[k]?≠some true:=by
  intro k h;rw[Array.getElem?_replicate]at h;split at h<;>simp at h
 exact⟨hwf,hv,rfl,fun _ _ _=>rfl,dr _,fun s _ h=>absurd h (hf _),fun _=>0,fun _=>0,fun m _ h=>absurd h (hf _),fun m _ m' _ _ h=>absurd h (hf _)⟩
theorem RG.world(h:RG W T0 vs ms L T w)(hb:Below w.heap.size w w'):RG W T0 vs ms L T w':=by
 obtain⟨bot,top,g1,g2⟩:=h.gh;refine⟨h.wf,h.lv,h.size,h.keep,nx h.bel hb,fun s hs hl=>by
  obtain⟨v,h1,h2⟩:=h.val s hs hl;exact⟨v,h1,h.lv s hs _ _ _ hb h2⟩,bot,top,fun m hm hl=>?_,g2⟩
 obtain⟨e1,e2,v,e3,e4⟩:=g1 m hm hl;exact⟨e1,zB e2 hb.size,v,e3,e4.below hb⟩
theorem RG.value{v:Value}(h:RG W T0 vs ms L T w)(s:VS)(hs:s∈vs)(hk:s.op=k)(hP:s.P w v):RG W T0 vs ms (L.setIfInBounds k true) (T.setIfInBounds s.slot v) w:=by
 subst hk;obtain⟨p1,p2,p3,p4,p5,p6,p7⟩:=h.parts;obtain⟨bot,top,g1,g2⟩:=h.gh;have hm':∀m∈ms,(L.setIfInBounds s.op true)[m.op]?=some true->L[m.op]?=some true:=fun m hm hl=>qU hl (p5 s hs m hm).2
 refine⟨h.wf,h.lv,by simp[h.size],fun j h1 h2=>by rw[xgc (h1 s hs)];exact h.keep j h1 h2,h.bel,?_,bot,top,fun m hm hl=>?_,fun m hm m' hm2 hlt l1 l2=>g2 m hm m' hm2 hlt (hm' m hm l1) (hm' m' hm2 l2)⟩
 ·intro t ht hl
  by_cases he:t=s
  ·subst he
   exact⟨v,by rw[Array.getElem?_setIfInBounds_self_of_lt (by rw[h.size];exact p6 _ hs)],hP⟩
  have n1:t.op≠s.op:=fun e=>he (qY p2 ht hs e)
  have n2:t.slot≠s.slot:=fun e=>he (qY p1 ht hs e)
  obtain⟨u,h1,h2⟩:=h.val t ht (qU hl (zP n1));exact⟨u,by rw[xgc (zP n2)];exact h1,h2⟩
 obtain⟨e1,e2,u,e3,e4⟩:=g1 m hm (hm' m hm hl);exact⟨e1,e2,u,by rw[xgc (p5 s hs m hm).1];exact e3,e4⟩
theorem RG.v{s:VS}(h:RG W T0 vs ms L T w)(hs:s∈vs)(hl:L[s.op]?=some true):∃v,T[s.slot]?=some v/\s.P w v:=h.val s hs hl
theorem RG.y{v:Value}(h:RG W T0 vs ms L T w){s:VS}(hs:s∈vs)(hP:s.P w v)(hk:s.op=k:=by rfl):RG W T0 vs ms (L.setIfInBounds k true) (T.setIfInBounds s.slot v) w:=h.value s hs hk hP
theorem RG.mat{v:Value}(h:RG W T0 vs ms L T w)(hcl:zCV ops L)(hL:L[k]?=some false)(m:MS)(hm:m∈ms)(hk:m.op=k)(hb:Below w.heap.size w w')(hw:zGC m.R m.C m.F w.heap.size w'.heap.size w' v)
  (hlt:(ms.all fun m'=>!decide (k<m'.op)||zHV ops 9 m'.op k)=true):RG W T0 vs ms (L.setIfInBounds k true) (T.setIfInBounds m.slot v) w':=by
 subst hk;have h':=h.world hb;obtain⟨p1,p2,p3,p4,p5,p6,p7⟩:=h.parts;obtain⟨bot,top,g1,g2⟩:=h.gh;have hno:∀m'∈ms,m.op<m'.op->L[m'.op]?≠some true:=fun m' hm' hlt' hh=>by
  have h3:=qW.1 hlt m' hm';simp only[hlt',decide_true,Bool.not_true,Bool.false_or]at h3;have:=zDK hcl h3 hh;rw[hL]at this;cases this
 have hold:∀m'∈ms,m'≠m->(L.setIfInBounds m.op true)[m'.op]?=some true->L[m'.op]?=some true:=fun m' hm' hne hl=>qU hl (fun e=>hne (qY p4 hm' hm e.symm))
 refine⟨h.wf,h.lv,by simp[h.size],fun j h1 h2=>by rw[xgc (h2 m hm)];exact h.keep j h1 h2,h'.bel,?_,fun i=>if i=m.op then w.heap.size else bot i,fun i=>if i=m.op then w'.heap.size else top i,fun m' hm' hl=>?_,fun a ha b hb' hlt' l1 l2=>?_⟩
 ·intro t ht hl
  obtain⟨u,h1,h2⟩:=h'.val t ht (qU hl (zP (p5 t ht m hm).2));exact⟨u,by rw[xgc (zP (p5 t ht m hm).1)];exact h1,h2⟩
 ·by_cases he:m'=m
  ·subst he
   simp only[if_true];exact⟨h.bel.size,xgf _,v,by rw[Array.getElem?_setIfInBounds_self_of_lt (by rw[h.size];exact p7 _ hm)],hw⟩
  have n1:m'.op≠m.op:=fun e=>he (qY p4 hm' hm e)
  have n2:m'.slot≠m.slot:=fun e=>he (qY p3 hm' hm e)
  simp only[if_neg n1];obtain⟨e1,e2,u,e3,e4⟩:=g1 m' hm' (hold m' hm' he hl);exact⟨e1,zB e2 hb.size,u,by rw[xgc (zP n2)];exact e3,e4.below hb⟩
 by_cases hb2:b=m
 ·subst hb2
  by_cases ha2:a=b
  ·subst ha2;omega
  have n1:a.op≠b.op:=fun e=>ha2 (qY p4 ha hm e)
  simp only[if_true,if_neg n1];exact(g1 a ha (hold a ha ha2 l1)).2.1
 by_cases ha2:a=m
 ·subst ha2
  exact absurd (hold b hb' hb2 l2) (hno b hb' hlt')
 have n1:a.op≠m.op:=fun e=>ha2 (qY p4 ha hm e)
 have n2:b.op≠m.op:=fun e=>hb2 (qY p4 hb' hm e)
 simp only[if_neg n1,if_neg n2];exact g2 a ha b hb' hlt' (hold a ha ha2 l1) (hold b hb' hb2 l2)
theorem RG.cell{o:Nat}{v:Value}(h:RG W T0 vs ms L T w)(hc:W.cell? ⟨b,o,none⟩=some v):w.cell? ⟨b,o,none⟩=some v:=jF hc h.bel
theorem RG.matv(h:RG W T0 vs ms L T w)(m:MS)(hm:m∈ms)(hl:L[m.op]?=some true):∃v,T[m.slot]?=some v/\∃o c,v= .agg #[.int .i64 m.R,.int .i64 m.C,.slice o m.R c]:=by
 obtain⟨bot,top,g1,g2⟩:=h.gh;obtain⟨e1,e2,v,e3,o,c,bs,e4,-⟩:=g1 m hm hl;exact⟨v,e3,o,c,e4⟩
end
structure zLK(n0 R C Cu Cw:Nat)(z:W5)(w:World)(v:Value):Prop where
 ex:∃so sc uo uc vo vc wo wc xo xc bS bU bV bW bX,v= .agg #[.int .i64 R,.int .i64 C,.slice so R sc,.int .i64 R,.int .i64 Cu,.slice uo R uc,.int .i64 R,.int .i64 Cu,.slice vo R vc,.int .i64 C,.int .i64 Cw,.slice wo C wc,.int .i64 C,.int .i64 Cw,.slice xo C xc]∧
  Wri w (.slice so R sc) R C bS z.s/\Wri w (.slice uo R uc) R Cu bU z.u/\Wri w (.slice vo R vc) R Cu bV z.v/\Wri w (.slice wo C wc) C Cw bW z.w/\Wri w (.slice xo C xc) C Cw bX z.x∧
  (∀b,Zn (.slice so R sc) bS b∨Zn (.slice uo R uc) bU b∨Zn (.slice vo R vc) bV b∨Zn (.slice wo C wc) bW b∨Zn (.slice xo C xc) bX b->n0<=b)∧
  Ap (.slice so R sc) bS (.slice uo R uc) bU/\Ap (.slice so R sc) bS (.slice vo R vc) bV/\Ap (.slice so R sc) bS (.slice wo C wc) bW/\Ap (.slice so R sc) bS (.slice xo C xc) bX/\Ap (.slice uo R uc) bU (.slice vo R vc) bV∧
  Ap (.slice uo R uc) bU (.slice wo C wc) bW/\Ap (.slice uo R uc) bU (.slice xo C xc) bX/\Ap (.slice vo R vc) bV (.slice wo C wc) bW/\Ap (.slice vo R vc) bV (.slice xo C xc) bX/\Ap (.slice wo C wc) bW (.slice xo C xc) bX
theorem zM9(n0 R C Cu Cw:Nat)(z:W5):zAQ (zLK n0 R C Cu Cw z):=by
 intro w w' v hb ⟨so,sc,uo,uc,vo,vc,wo,wc,xo,xc,bS,bU,bV,bW,bX,h1,h2,h3,h4,h5,h6,h7⟩;exact⟨so,sc,uo,uc,vo,vc,wo,wc,xo,xc,bS,bU,bV,bW,bX,h1,h2.below hb,h3.below hb,h4.below hb,h5.below hb,h6.below hb,h7⟩
theorem zB7{A A':Value}{bs bs':List Nat}{a c d:Nat}(h:∀x,Zn A bs x->a<=x/\x<b)(h':∀x,Zn A' bs' x->c<=x/\x<d)(hbc:b<=c):Ap A bs A' bs':=fun x h1 h2=>by
 have:=h x h1;have:=h' x h2;omega
structure AS where
 op:Nat
 slot:Nat
 m:MS
structure RX(W:World)(T0:Array Value)(vs:List VS)(ms:List MS)(al_:List AS)(L:Array Bool)(T:Array Value)(w:World):Prop where
 g:RG W T0 vs ms L T w
 wf:∀a∈al_,a.m∈ms/\∃s∈vs,s.op=a.op/\s.slot=a.slot
 al:∀a∈al_,L[a.op]?=some true->L[a.m.op]?=some true/\∃o c,T[a.m.slot]?=some (.agg #[.int .i64 a.m.R,.int .i64 a.m.C,.slice o a.m.R c])/\T[a.slot]?=some (.slice o a.m.R c)
section
variable {W:World} {T0:Array Value} {vs:List VS} {ms:List MS} {al_:List AS} {L:Array Bool} {T:Array Value} {w w':World}
theorem RX.start(hwf:zOn T0.size vs ms=true)(hv:∀s∈vs,zAQ s.P)(ha:∀a∈al_,a.m∈ms/\∃s∈vs,s.op=a.op/\s.slot=a.slot):RX W T0 vs ms al_ (Array.replicate n false) T0 W.drew:=
 ⟨RG.start hwf hv,ha,fun a _ h=>by
  rw[Array.getElem?_replicate]at h;split at h<;>simp at h⟩
theorem RX.world(h:RX W T0 vs ms al_ L T w)(hb:Below w.heap.size w w'):RX W T0 vs ms al_ L T w':=⟨h.g.world hb,h.wf,h.al⟩
theorem RX.value{v:Value}(h:RX W T0 vs ms al_ L T w)(s:VS)(hs:s∈vs)(hk:s.op=k)(hP:s.P w v)(hn:∀a∈al_,a.op≠k):RX W T0 vs ms al_ (L.setIfInBounds k true) (T.setIfInBounds s.slot v) w:=by
 obtain⟨p1,p2,p3,p4,p5,p6,p7⟩:=h.g.parts;refine⟨h.g.value s hs hk hP,h.wf,fun a ha hl=>?_⟩;subst hk;obtain⟨e1,t,ht,e2,e3⟩:=h.wf a ha;have hl':L[a.op]?=some true:=qU hl (fun e=>hn a ha e.symm);obtain⟨q1,o,c,q2,q3⟩:=h.al a ha hl';have n1:s.slot≠a.m.slot:=(p5 s hs _ e1).1;have n2:s.slot≠a.slot:=by
  rw[<-e3];intro e;have:=qY p1 hs ht e;subst this;exact hn a ha e2.symm
 refine⟨?_,o,c,by rw[xgc n1];exact q2,by rw[xgc n2];exact q3⟩;rw[xgc (p5 s hs _ e1).2];exact q1
theorem RX.y{v:Value}(h:RX W T0 vs ms al_ L T w){s:VS}(hs:s∈vs)(hP:s.P w v)(hn:∀a∈al_,a.op≠k)(hk:s.op=k:=by rfl):RX W T0 vs ms al_ (L.setIfInBounds k true) (T.setIfInBounds s.slot v) w:=h.value s hs hk hP hn
theorem RX.alias{v:Value}(h:RX W T0 vs ms al_ L T w)(a:AS)(ha:a∈al_)(s:VS)(hs:s∈vs)(hso:s.op=a.op)(hss:s.slot=a.slot)(hP:s.P w v)(hm:L[a.m.op]?=some true)(hdup:∀b∈al_,b.op=a.op->b=a)
  {o:Option Addr} {c:Nat} (h1:T[a.m.slot]?=some (.agg #[.int .i64 a.m.R,.int .i64 a.m.C,.slice o a.m.R c])) (h2:v= .slice o a.m.R c):RX W T0 vs ms al_ (L.setIfInBounds a.op true) (T.setIfInBounds s.slot v) w:=by
 obtain⟨p1,p2,p3,p4,p5,p6,p7⟩:=h.g.parts;refine⟨h.g.value s hs hso hP,h.wf,fun b hb hl=>?_⟩;obtain⟨e1,t,ht,e2,e3⟩:=h.wf b hb;have nm:s.slot≠b.m.slot:=(p5 s hs _ e1).1;have no:s.op≠b.m.op:=(p5 s hs _ e1).2;by_cases hba:b=a
 ·subst hba
  refine⟨by rw[xgc (by rw[<-hso];exact no)];exact hm,o,c,by rw[xgc nm];exact h1,?_⟩;rw[<-hss,Array.getElem?_setIfInBounds_self_of_lt (by rw[h.g.size];exact p6 _ hs),h2]
 have hne:b.op≠a.op:=fun e=>hba (hdup b hb e)
 obtain⟨q1,o',c',q2,q3⟩:=h.al b hb (qU hl (zP hne));have n2:s.slot≠b.slot:=by
  rw[<-e3];intro e;have:=qY p1 hs ht e;subst this;exact hne (e2.symm.trans hso)
 exact⟨by rw[xgc (by rw[<-hso];exact no)];exact q1,o',c',by rw[xgc nm];exact q2,by rw[xgc n2];exact q3⟩
theorem RX.mat{v:Value}(h:RX W T0 vs ms al_ L T w)(hcl:zCV ops L)(hL:L[k]?=some false)(m:MS)(hm:m∈ms)(hk:m.op=k)(hb:Below w.heap.size w w')(hw:zGC m.R m.C m.F w.heap.size w'.heap.size w' v)
  (hlt:(ms.all fun m'=>!decide (k<m'.op)||zHV ops 9 m'.op k)=true):RX W T0 vs ms al_ (L.setIfInBounds k true) (T.setIfInBounds m.slot v) w':=by
 obtain⟨p1,p2,p3,p4,p5,p6,p7⟩:=h.g.parts;refine⟨h.g.mat hcl hL m hm hk hb hw hlt,h.wf,fun a ha hl=>?_⟩;subst hk;obtain⟨e1,t,ht,e2,e3⟩:=h.wf a ha;have no:m.op≠a.op:=by rw[<-e2];exact fun e=>(p5 t ht m hm).2 e.symm
 have ns:m.slot≠a.slot:=by rw[<-e3];exact fun e=>(p5 t ht m hm).1 e.symm
 obtain⟨q1,o,c,q2,q3⟩:=h.al a ha (qU hl no);have hne:m≠a.m:=fun e=>by
  rw[<-e,hL]at q1;cases q1
 have n1:m.slot≠a.m.slot:=fun e=>hne (qY p3 hm e1 e)
 have n2:m.op≠a.m.op:=fun e=>hne (qY p4 hm e1 e)
 exact⟨by rw[xgc n2];exact q1,o,c,by rw[xgc n1];exact q2,by rw[xgc ns];exact q3⟩
end
def RXS(W:World)(T0:Array Value)(vs:List VS)(ms:List MS)(al_:List AS)(q:Nat)(st:Array Value->World->World)(L:Array Bool)(T:Array Value)(w:World):Prop:=
 ∃w0,RX W T0 vs ms al_ L T w0/\(L[q]?≠some true->w=w0)/\(L[q]?=some true->w=st T w0)
section
variable {W:World} {T0:Array Value} {vs:List VS} {ms:List MS} {al_:List AS} {L:Array Bool} {T:Array Value} {w w':World} {q:Nat} {st:Array Value->World->World}
theorem RXS.start(h:RX W T0 vs ms al_ (Array.replicate n false) T0 W.drew):RXS W T0 vs ms al_ q st (Array.replicate n false) T0 W.drew:=
 ⟨_,h,fun _=>rfl,fun hh=>by
  rw[Array.getElem?_replicate]at hh;split at hh<;>simp at hh⟩
theorem RX.mark(h:RX W T0 vs ms al_ L T w)(hq:∀s∈vs,s.op≠q)(hm:∀m∈ms,m.op≠q):RX W T0 vs ms al_ (L.setIfInBounds q true) T w:=by
 obtain⟨bot,top,g1,g2⟩:=h.g.gh;have um:∀m∈ms,(L.setIfInBounds q true)[m.op]?=some true->L[m.op]?=some true:=fun m hm' hl=>qU hl (zP (hm m hm'))
 refine⟨⟨h.g.wf,h.g.lv,h.g.size,h.g.keep,h.g.bel,fun s hs hl=>h.g.val s hs (qU hl (zP (hq s hs))),bot,top,fun m hm' hl=>g1 m hm' (um m hm' hl),fun m hm' m' hm2 hlt l1 l2=>g2 m hm' m' hm2 hlt (um m hm' l1) (um m' hm2 l2)⟩,h.wf,fun a ha hl=>?_⟩;obtain⟨e1,t,ht,e2,e3⟩:=h.wf a ha;obtain⟨q1,q2⟩:=h.al a ha (qU hl (by rw[<-e2];exact zP (hq t ht)));exact⟨by rw[xgc (zP (hm _ e1))];exact q1,q2⟩
theorem yM.liftX{P:Program}{Q:Exit->Act->World->Prop}{ds:List Deferred}{o:Oper}(hq:zHV ops 5 q i=true)(hne:i≠q)
  (h:yM P ops Q ds (RX W T0 vs ms al_) i o):yM P ops Q ds (RXS W T0 vs ms al_ q st) i o:=by
 intro L T w hL hd hcl hI K hK;obtain⟨w0,h0,h1,h2⟩:=hI;have hLq:L[q]?≠some true:=fun hh=>by
  have:=zDK hcl hq hh;rw[hL]at this;cases this
 obtain rfl:=h1 hLq;exact h L T w hL @hd hcl h0 K (fun T' w' h'=>hK T' w' ⟨w',h',fun _=>rfl,fun hh=>absurd (qU hh hne) hLq⟩)
theorem RXS.step{T':Array Value}(h:RXS W T0 vs ms al_ q st L T w)(hx:∀w0,RX W T0 vs ms al_ L T w0->RX W T0 vs ms al_ (L.setIfInBounds k true) T' w0)(hne:k≠q)(hst:∀w,st T' w=st T w):RXS W T0 vs ms al_ q st (L.setIfInBounds k true) T' w:=by
 obtain⟨w0,h0,h1,h2⟩:=h;exact⟨w0,hx w0 h0,fun hn=>h1 fun hh=>hn (zBI hh),fun hh=>(h2 (qU hh hne)).trans (hst w0).symm⟩
theorem RXS.store(h:RX W T0 vs ms al_ L T w)(hL:L[q]?=some false)(hq:∀s∈vs,s.op≠q)(hm:∀m∈ms,m.op≠q)(hw:w'=st T w):RXS W T0 vs ms al_ q st (L.setIfInBounds q true) T w':=
 ⟨w,h.mark hq hm,fun hn=>absurd (Array.getElem?_setIfInBounds_self_of_lt (Array.getElem?_eq_some_iff.1 hL).1) hn,fun _=>hw⟩
theorem RXS.here(h:RXS W T0 vs ms al_ q st L T w)(hL:L[q]?=some false):RX W T0 vs ms al_ L T w:=by
 obtain⟨w0,h0,h1,-⟩:=h;obtain rfl:=h1 (by rw[hL];simp);exact h0
end
theorem RG.five{W:World}{T0:Array Value}{vs:List VS}{L:Array Bool}{T:Array Value}{w:World}{k1 k2 k3 k4 k5 s1 s2 s3 s4 s5 R C Cu Cw:Nat}{F1 F2 F3 F4 F5:Nat->Nat->Int}
  (h:RG W T0 vs [⟨k1,s1,R,C,F1⟩,⟨k2,s2,R,Cu,F2⟩,⟨k3,s3,R,Cu,F3⟩,⟨k4,s4,C,Cw,F4⟩,⟨k5,s5,C,Cw,F5⟩] L T w) (o1:k1<k2) (o2:k2<k3) (o3:k3<k4) (o4:k4<k5)
  (l1:L[k1]?=some true) (l2:L[k2]?=some true) (l3:L[k3]?=some true) (l4:L[k4]?=some true) (l5:L[k5]?=some true):
  ∃so sc uo uc vo vc wo wc xo xc,T[s1]?=some (.agg #[.int .i64 R,.int .i64 C,.slice so R sc])/\T[s2]?=some (.agg #[.int .i64 R,.int .i64 Cu,.slice uo R uc])/\T[s3]?=some (.agg #[.int .i64 R,.int .i64 Cu,.slice vo R vc])∧
   T[s4]?=some (.agg #[.int .i64 C,.int .i64 Cw,.slice wo C wc])/\T[s5]?=some (.agg #[.int .i64 C,.int .i64 Cw,.slice xo C xc])∧
   zLK W.heap.size R C Cu Cw ⟨F1,F2,F3,F4,F5⟩ w (.agg #[.int .i64 R,.int .i64 C,.slice so R sc,.int .i64 R,.int .i64 Cu,.slice uo R uc,.int .i64 R,.int .i64 Cu,.slice vo R vc,.int .i64 C,.int .i64 Cw,.slice wo C wc,.int .i64 C,.int .i64 Cw,.slice xo C xc]):=by
 obtain⟨bot,top,g1,g2⟩:=h.gh;have M1:(⟨k1,s1,R,C,F1⟩:MS)∈ [(⟨k1,s1,R,C,F1⟩:MS),⟨k2,s2,R,Cu,F2⟩,⟨k3,s3,R,Cu,F3⟩,⟨k4,s4,C,Cw,F4⟩,⟨k5,s5,C,Cw,F5⟩]:=by simp
 have M2:(⟨k2,s2,R,Cu,F2⟩:MS)∈ [(⟨k1,s1,R,C,F1⟩:MS),⟨k2,s2,R,Cu,F2⟩,⟨k3,s3,R,Cu,F3⟩,⟨k4,s4,C,Cw,F4⟩,⟨k5,s5,C,Cw,F5⟩]:=by simp
 have M3:(⟨k3,s3,R,Cu,F3⟩:MS)∈ [(⟨k1,s1,R,C,F1⟩:MS),⟨k2,s2,R,Cu,F2⟩,⟨k3,s3,R,Cu,F3⟩,⟨k4,s4,C,Cw,F4⟩,⟨k5,s5,C,Cw,F5⟩]:=by simp
 have M4:(⟨k4,s4,C,Cw,F4⟩:MS)∈ [(⟨k1,s1,R,C,F1⟩:MS),⟨k2,s2,R,Cu,F2⟩,⟨k3,s3,R,Cu,F3⟩,⟨k4,s4,C,Cw,F4⟩,⟨k5,s5,C,Cw,F5⟩]:=by simp
 have M5:(⟨k5,s5,C,Cw,F5⟩:MS)∈ [(⟨k1,s1,R,C,F1⟩:MS),⟨k2,s2,R,Cu,F2⟩,⟨k3,s3,R,Cu,F3⟩,⟨k4,s4,C,Cw,F4⟩,⟨k5,s5,C,Cw,F5⟩]:=by simp
 obtain⟨a1,a2,_,a3,so,sc,bS,rfl,a5,a6⟩:=g1 _ M1 l1;obtain⟨b1,b2,_,b3,uo,uc,bU,rfl,b5,b6⟩:=g1 _ M2 l2;obtain⟨c1,c2,_,c3,vo,vc,bV,rfl,c5,c6⟩:=g1 _ M3 l3;obtain⟨d1,d2,_,d3,wo,wc,bW,rfl,d5,d6⟩:=g1 _ M4 l4;obtain⟨e1,e2,_,e3,xo,xc,bX,rfl,e5,e6⟩:=g1 _ M5 l5;have r12:=g2 _ M1 _ M2 o1 l1 l2;have r13:=g2 _ M1 _ M3 (by dsimp only;omega) l1 l3;have r14:=g2 _ M1 _ M4 (by dsimp only;omega) l1 l4;have r15:=g2 _ M1 _ M5 (by dsimp only;omega) l1 l5;have r23:=g2 _ M2 _ M3 (by dsimp only;omega) l2 l3;have r24:=g2 _ M2 _ M4 (by dsimp only;omega) l2 l4;have r25:=g2 _ M2 _ M5 (by dsimp only;omega) l2 l5;have r34:=g2 _ M3 _ M4 (by dsimp only;omega) l3 l4;have r35:=g2 _ M3 _ M5 (by dsimp only;omega) l3 l5;have r45:=g2 _ M4 _ M5 (by dsimp only;omega) l4 l5;refine⟨so,sc,uo,uc,vo,vc,wo,wc,xo,xc,a3,b3,c3,d3,e3,⟨so,sc,uo,uc,vo,vc,wo,wc,xo,xc,bS,bU,bV,bW,bX,rfl,a5,b5,c5,d5,e5,?_,zB7 a6 b6 r12,zB7 a6 c6 r13,zB7 a6 d6 r14,zB7 a6 e6 r15,zB7 b6 c6 r23,zB7 b6 d6 r24,zB7 b6 e6 r25,zB7 c6 d6 r34,zB7 c6 e6 r35,zB7 d6 e6 r45⟩⟩;rintro b (hb|hb|hb|hb|hb);exact zB a1 (a6 b hb).1;exact zB b1 (b6 b hb).1;exact zB c1 (c6 b hb).1;exact zB d1 (d6 b hb).1;exact zB e1 (e6 b hb).1
theorem Blk.all15(h:Blk w g t #[c0,c1,c2,c3,c4,c5,c6,c7,c8,c9,c10,c11,c12,c13,c14]):
  (w.cell? ⟨g,0,none⟩=some c0/\w.cell? ⟨g,1,none⟩=some c1/\w.cell? ⟨g,2,none⟩=some c2/\w.cell? ⟨g,3,none⟩=some c3/\w.cell? ⟨g,4,none⟩=some c4/\w.cell? ⟨g,5,none⟩=some c5/\w.cell? ⟨g,6,none⟩=some c6/\w.cell? ⟨g,7,none⟩=some c7/\w.cell? ⟨g,8,none⟩=some c8/\w.cell? ⟨g,9,none⟩=some c9/\w.cell? ⟨g,10,none⟩=some c10/\w.cell? ⟨g,11,none⟩=some c11/\w.cell? ⟨g,12,none⟩=some c12/\w.cell? ⟨g,13,none⟩=some c13/\w.cell? ⟨g,14,none⟩=some c14)/\(w.frozen? ⟨g,0,none⟩=false/\w.frozen? ⟨g,1,none⟩=false/\w.frozen? ⟨g,2,none⟩=false/\w.frozen? ⟨g,3,none⟩=false/\w.frozen? ⟨g,4,none⟩=false/\w.frozen? ⟨g,5,none⟩=false/\w.frozen? ⟨g,6,none⟩=false/\w.frozen? ⟨g,7,none⟩=false/\w.frozen? ⟨g,8,none⟩=false/\w.frozen? ⟨g,9,none⟩=false/\w.frozen? ⟨g,10,none⟩=false/\w.frozen? ⟨g,11,none⟩=false/\w.frozen? ⟨g,12,none⟩=false/\w.frozen? ⟨g,13,none⟩=false/\w.frozen? ⟨g,14,none⟩=false):=
 ⟨⟨h.cell 0,h.cell 1,h.cell 2,h.cell 3,h.cell 4,h.cell 5,h.cell 6,h.cell 7,h.cell 8,h.cell 9,h.cell 10,h.cell 11,h.cell 12,h.cell 13,h.cell 14⟩,⟨h.frozen 0,h.frozen 1,h.frozen 2,h.frozen 3,h.frozen 4,h.frozen 5,h.frozen 6,h.frozen 7,h.frozen 8,h.frozen 9,h.frozen 10,h.frozen 11,h.frozen 12,h.frozen 13,h.frozen 14⟩⟩
theorem Blk.put15(h:Blk w g t #[c0,c1,c2,c3,c4,c5,c6,c7,c8,c9,c10,c11,c12,c13,c14])(x0 x1 x2 x3 x4 x5 x6 x7 x8 x9 x10 x11 x12 x13 x14:Value):Blk (((((((((((((((w.setCell ⟨g,0,none⟩ x0).setCell ⟨g,1,none⟩ x1).setCell ⟨g,2,none⟩ x2).setCell ⟨g,3,none⟩ x3).setCell ⟨g,4,none⟩ x4).setCell ⟨g,5,none⟩ x5).setCell ⟨g,6,none⟩ x6).setCell ⟨g,7,none⟩ x7).setCell ⟨g,8,none⟩ x8).setCell ⟨g,9,none⟩ x9).setCell ⟨g,10,none⟩ x10).setCell ⟨g,11,none⟩ x11).setCell ⟨g,12,none⟩ x12).setCell ⟨g,13,none⟩ x13).setCell ⟨g,14,none⟩ x14) g t #[x0,x1,x2,x3,x4,x5,x6,x7,x8,x9,x10,x11,x12,x13,x14]:=by
 simpa using(((((((((((((((h.set_ 0 x0).set_ 1 x1).set_ 2 x2).set_ 3 x3).set_ 4 x4).set_ 5 x5).set_ 6 x6).set_ 7 x7).set_ 8 x8).set_ 9 x9).set_ 10 x10).set_ 11 x11).set_ 12 x12).set_ 13 x13).set_ 14 x14)
theorem Blk.lext15(h:Blk w g t cs)(hne:t≠tU)(x0 x1 x2 x3 x4 x5 x6 x7 x8 x9 x10 x11 x12 x13 x14:Value):zBq w (((((((((((((((w.setCell ⟨g,0,none⟩ x0).setCell ⟨g,1,none⟩ x1).setCell ⟨g,2,none⟩ x2).setCell ⟨g,3,none⟩ x3).setCell ⟨g,4,none⟩ x4).setCell ⟨g,5,none⟩ x5).setCell ⟨g,6,none⟩ x6).setCell ⟨g,7,none⟩ x7).setCell ⟨g,8,none⟩ x8).setCell ⟨g,9,none⟩ x9).setCell ⟨g,10,none⟩ x10).setCell ⟨g,11,none⟩ x11).setCell ⟨g,12,none⟩ x12).setCell ⟨g,13,none⟩ x13).setCell ⟨g,14,none⟩ x14):=
 (((((((((((((((h.lext hne 0 x0).trans ((h.set_ 0 x0).lext hne 1 x1)).trans (((h.set_ 0 x0).set_ 1 x1).lext hne 2 x2)).trans ((((h.set_ 0 x0).set_ 1 x1).set_ 2 x2).lext hne 3 x3)).trans (((((h.set_ 0 x0).set_ 1 x1).set_ 2 x2).set_ 3 x3).lext hne 4 x4)).trans ((((((h.set_ 0 x0).set_ 1 x1).set_ 2 x2).set_ 3 x3).set_ 4 x4).lext hne 5 x5)).trans (((((((h.set_ 0 x0).set_ 1 x1).set_ 2 x2).set_ 3 x3).set_ 4 x4).set_ 5 x5).lext hne 6 x6)).trans ((((((((h.set_ 0 x0).set_ 1 x1).set_ 2 x2).set_ 3 x3).set_ 4 x4).set_ 5 x5).set_ 6 x6).lext hne 7 x7)).trans (((((((((h.set_ 0 x0).set_ 1 x1).set_ 2 x2).set_ 3 x3).set_ 4 x4).set_ 5 x5).set_ 6 x6).set_ 7 x7).lext hne 8 x8)).trans ((((((((((h.set_ 0 x0).set_ 1 x1).set_ 2 x2).set_ 3 x3).set_ 4 x4).set_ 5 x5).set_ 6 x6).set_ 7 x7).set_ 8 x8).lext hne 9 x9)).trans (((((((((((h.set_ 0 x0).set_ 1 x1).set_ 2 x2).set_ 3 x3).set_ 4 x4).set_ 5 x5).set_ 6 x6).set_ 7 x7).set_ 8 x8).set_ 9 x9).lext hne 10 x10)).trans ((((((((((((h.set_ 0 x0).set_ 1 x1).set_ 2 x2).set_ 3 x3).set_ 4 x4).set_ 5 x5).set_ 6 x6).set_ 7 x7).set_ 8 x8).set_ 9 x9).set_ 10 x10).lext hne 11 x11)).trans (((((((((((((h.set_ 0 x0).set_ 1 x1).set_ 2 x2).set_ 3 x3).set_ 4 x4).set_ 5 x5).set_ 6 x6).set_ 7 x7).set_ 8 x8).set_ 9 x9).set_ 10 x10).set_ 11 x11).lext hne 12 x12)).trans ((((((((((((((h.set_ 0 x0).set_ 1 x1).set_ 2 x2).set_ 3 x3).set_ 4 x4).set_ 5 x5).set_ 6 x6).set_ 7 x7).set_ 8 x8).set_ 9 x9).set_ 10 x10).set_ 11 x11).set_ 12 x12).lext hne 13 x13)).trans (((((((((((((((h.set_ 0 x0).set_ 1 x1).set_ 2 x2).set_ 3 x3).set_ 4 x4).set_ 5 x5).set_ 6 x6).set_ 7 x7).set_ 8 x8).set_ 9 x9).set_ 10 x10).set_ 11 x11).set_ 12 x12).set_ 13 x13).lext hne 14 x14))
theorem zSR(w:World)(g k:Nat)(x0 x1 x2 x3 x4 x5 x6 x7 x8 x9 x10 x11 x12 x13 x14:Value)(hk:k≠g):((((((((((((((((w.setCell ⟨g,0,none⟩ x0).setCell ⟨g,1,none⟩ x1).setCell ⟨g,2,none⟩ x2).setCell ⟨g,3,none⟩ x3).setCell ⟨g,4,none⟩ x4).setCell ⟨g,5,none⟩ x5).setCell ⟨g,6,none⟩ x6).setCell ⟨g,7,none⟩ x7).setCell ⟨g,8,none⟩ x8).setCell ⟨g,9,none⟩ x9).setCell ⟨g,10,none⟩ x10).setCell ⟨g,11,none⟩ x11).setCell ⟨g,12,none⟩ x12).setCell ⟨g,13,none⟩ x13).setCell ⟨g,14,none⟩ x14)).heap[k]?=w.heap[k]?:=
 ((zW _ g 14 k x14 hk).trans ((zW _ g 13 k x13 hk).trans ((zW _ g 12 k x12 hk).trans ((zW _ g 11 k x11 hk).trans ((zW _ g 10 k x10 hk).trans ((zW _ g 9 k x9 hk).trans ((zW _ g 8 k x8 hk).trans ((zW _ g 7 k x7 hk).trans ((zW _ g 6 k x6 hk).trans ((zW _ g 5 k x5 hk).trans ((zW _ g 4 k x4 hk).trans ((zW _ g 3 k x3 hk).trans ((zW _ g 2 k x2 hk).trans ((zW _ g 1 k x1 hk).trans (zW _ g 0 k x0 hk)))))))))))))))
theorem zQf(h:Below B a w)(hp:B<=g)(x0 x1 x2 x3 x4 x5 x6 x7 x8 x9 x10 x11 x12 x13 x14:Value):Below B a (((((((((((((((w.setCell ⟨g,0,none⟩ x0).setCell ⟨g,1,none⟩ x1).setCell ⟨g,2,none⟩ x2).setCell ⟨g,3,none⟩ x3).setCell ⟨g,4,none⟩ x4).setCell ⟨g,5,none⟩ x5).setCell ⟨g,6,none⟩ x6).setCell ⟨g,7,none⟩ x7).setCell ⟨g,8,none⟩ x8).setCell ⟨g,9,none⟩ x9).setCell ⟨g,10,none⟩ x10).setCell ⟨g,11,none⟩ x11).setCell ⟨g,12,none⟩ x12).setCell ⟨g,13,none⟩ x13).setCell ⟨g,14,none⟩ x14):=
 (yJ (yJ (yJ (yJ (yJ (yJ (yJ (yJ (yJ (yJ (yJ (yJ (yJ (yJ (yJ h hp 0 x0) hp 1 x1) hp 2 x2) hp 3 x3) hp 4 x4) hp 5 x5) hp 6 x6) hp 7 x7) hp 8 x8) hp 9 x9) hp 10 x10) hp 11 x11) hp 12 x12) hp 13 x13) hp 14 x14)
abbrev tS:TypeId:=134
def zYP:Array Value:=#[.int .i64 0,.int .i64 0,.slice none 0 0,.int .i64 0,.int .i64 0,.slice none 0 0,.int .i64 0,.int .i64 0,.slice none 0 0,.int .i64 0,.int .i64 0,.slice none 0 0,.int .i64 0,.int .i64 0,.slice none 0 0]
def zMl(n:Nat):World->Value->Prop:=fun w v=>∃g,v= .pointer (some ⟨g,0,none⟩)/\Blk w g tW #[.int .i64 0,.int .i64 0,.slice none 0 0,.int .i64 0,.int .i64 0,.slice none 0 0,.int .i64 0,.int .i64 0,.slice none 0 0,.int .i64 0,.int .i64 0,.slice none 0 0,.int .i64 0,.int .i64 0,.slice none 0 0]/\n<=g
theorem zJN(n:Nat):zAQ (zMl n):=fun _ _ _ x ⟨g,h1,h2,h3⟩=>⟨g,h1,h2.below x,h3⟩
theorem zLK.work{W:World}{n0 R C Cu Cw:Nat}{z:W5}{so sc uo uc vo vc wo wc xo xc}(hg:Blk w g tW cs)(hn:n0<=g)
  (h:zLK n0 R C Cu Cw z w (.agg #[.int .i64 R,.int .i64 C,.slice so R sc,.int .i64 R,.int .i64 Cu,.slice uo R uc,.int .i64 R,.int .i64 Cu,.slice vo R vc,.int .i64 C,.int .i64 Cw,.slice wo C wc,.int .i64 C,.int .i64 Cw,.slice xo C xc]))
  (hW:Blk W g tW #[.int .i64 R,.int .i64 C,.slice so R sc,.int .i64 R,.int .i64 Cu,.slice uo R uc,.int .i64 R,.int .i64 Cu,.slice vo R vc,.int .i64 C,.int .i64 Cw,.slice wo C wc,.int .i64 C,.int .i64 Cw,.slice xo C xc])
  (ho:qG (fun b=>b=g) w W):∃bS bU bV bW bX,zCW W n0 g R C R C Cu Cw (.slice so R sc) (.slice uo R uc) (.slice vo R vc) (.slice wo C wc) (.slice xo C xc) bS bU bV bW bX z:=by
 obtain⟨so',sc',uo',uc',vo',vc',wo',wc',xo',xc',bS,bU,bV,bW,bX,e,m1,m2,m3,m4,m5,hz,a1,a2,a3,a4,a5,a6,a7,a8,a9,a10⟩:=h.ex;injection e with e
 simp only[Array.mk.injEq,List.cons.injEq,Value.slice.injEq,true_and,and_true]at e;obtain⟨⟨rfl,rfl⟩,⟨rfl,rfl⟩,⟨rfl,rfl⟩,⟨rfl,rfl⟩,rfl,rfl⟩:=e;refine⟨bS,bU,bV,bW,bX,hW,hn,m1.keepZ ho ?_,m2.keepZ ho ?_,m3.keepZ ho ?_,m4.keepZ ho ?_,m5.keepZ ho ?_,hz,a1,a2,a3,a4,a5,a6,a7,a8,a9,a10⟩;rintro b hb rfl;exact m1.nwb hg hb;rintro b hb rfl;exact m2.nwb hg hb;rintro b hb rfl;exact m3.nwb hg hb;rintro b hb rfl;exact m4.nwb hg hb;rintro b hb rfl;exact m5.nwb hg hb
theorem zVz(hB:BSm B)(v kv:Value)(M:List (List Int))(R C:Nat)(w:World)(h:zAO w v R C M)(hF:zBc R C M)(hk:jT w kv 1)(hR:R<=1000000)(hC:C<=1000000)(hok:okF B R C (ent M))(s1:Sm 1):
  Calls Tryz.prog 114 #[v,kv] w fun e w'=>∃v,e= .returned v/\zGC R C (ent M) w.heap.size w'.heap.size w' v/\Below w.heap.size w w':=by
 refine(zPf v kv M R C 1 w h hF hk hR hC ?_ s1).mono fun e w' hr=>?_
 ·intro r hr z hz
  obtain⟨i,hi,ei⟩:=qS hr;obtain⟨j,hj,ej⟩:=qS hz;have e1:M[i]?=some r:=by rw[xga hi,ei]
  have e2:r[j]?=some z:=by rw[xga hj,ej]
  have e3:=hF.2 r hr;have:=hok i (by rw[<-hF.1];exact hi) j oM;rw[zGG e1 e2]at this;exact hB.sm _ this
 have hq:genM R C (fun i j=>1*ent M i j)=genM R C (ent M):=zAM fun i _ j _=>zAD _
 rw[hq]at hr;exact hr.within
theorem zJy(n:Nat)(w:World)(hn:n<=1000000):Calls Tryz.prog 148 #[.int .i64 n] w fun e w'=>∃v,e= .returned v/\zGC n n idf w.heap.size w'.heap.size w' v/\Below w.heap.size w w':=
 (zKp n w hn).mono fun _ _ hr=>hr.within
def zY1(R C:Nat)(F:Nat->Nat->Int):World->Value->Prop:=fun w v=>∃o c,v= .agg #[.int .i64 R,.int .i64 C,.slice o R c]/\zBl w (.slice o R c) (genM R C F)
theorem zEp{base:Nat}{b:World}(h:Below B w a)(ho:qG (fun k=>base<=k) a b)(hB:B<=base)(hsz:B<=a.heap.size):Below B w b:=
 ⟨ho.bel.os.trans h.os,ho.bel.tape.trans h.tape,ho.bel.output.trans h.output,zB h.size ho.bel.size,fun k hk=>(ho.old k oM oM).trans (h.block k hk)⟩
theorem zBl.off{v:Value}{T:TypeId}(h:zBl w v M)(hg:Blk w g T cs)(h1:T≠tR)(h2:T≠tI)(ho:∀b,b≠g->w'.heap[b]?=w.heap[b]?)(hx:zBq w w'):zBl w' v M:=by
 obtain⟨ao,n,cap,e1,e2,e3,e4,e5⟩:=h;refine⟨ao,n,cap,e1,e2,e3,e4,fun hn=>?_⟩;obtain⟨b,cs',q1,q2,q3⟩:=e5 hn;have hne:∀{c:Nat} {U:TypeId} {ds:Array Value},w.heap[c]?=some (.cells ds U (0,0))->T≠U->c≠g:=by
  intro c U ds hc hT hh;subst hh;have hg':w.heap[c]?=some (.cells cs T (0,0)):=hg;rw[hg']at hc;injection hc with hc
  injection hc with _ ht
  exact hT ht
 refine⟨b,cs',q1,(ho b (hne q2 h1)).trans q2,fun k zs hk=>?_⟩;obtain⟨rv,r1,ao',n',cap',r2,r3,r4,r5,r6⟩:=q3 k zs hk;refine⟨rv,r1,ao',n',cap',r2,r3,r4,r5,fun hz=>?_⟩;obtain⟨b',s1,cs2,s2,s3⟩:=r6 hz;exact⟨b',s1,cs2,(ho b' (hne s2 h2)).trans s2,fun k z hk=>by
  obtain⟨a1,a2,a3,a4,a5,a6,a7⟩:=s3 k z hk;exact⟨a1,a2,a3,a4,a5,a6,a7.ext hx⟩⟩
def zf:Nat->Nat->Int:=fun _ _=>0
theorem zTr(R C:Nat)(w:World)(hR:R<=1000000)(hC:C<=1000000):Calls Tryz.prog 108 #[.int .i64 R,.int .i64 C] w fun e w'=>∃v,e= .returned v/\zGC R C zf w.heap.size w'.heap.size w' v/\Below w.heap.size w w':=
 (zIC R C w hR hC).mono fun e w' hr=>by
  rw[zE0]at hr;exact hr.within
def nzL(l:List Int):List Int:=l.filter (fun z=>decide (z≠0))
theorem zIh(v:Value)(C:Nat)(M:List (List Int))(w:World)(h:zAO w v (0:Nat) C M)(hF:zBc 0 C M):
  Calls Tryz.prog 72 #[v] w fun e w'=>∃v,e= .returned v/\zEW w' w.heap.size v []/\Below w.heap.size w w':=by
 have H0:=xgv h;obtain⟨R,hR0⟩:∃R:Nat,R=0:=⟨0,rfl⟩;rw[<-hR0]at H0;obtain⟨A,rfl,h⟩:=h;obtain⟨ao,n,cap,rfl,e2,e3,e4,-⟩:=id h;have hdv:decide (zBL R C M)=true:=decide_eq_true (by rw[hR0];exact hF.valid);rw[<-hR0];clear e2 hF;go_enter Tryz.func72,Tryz.ntmps72;go_upto_region 1 with(fail)
 refine zD ?_;intro W0 hW0;obtain⟨hB0,bx1,hs0⟩:=qM hW0;obtain⟨c1,c2,c3,c4,c5,c6⟩:=bx1.three;clear hW0;go_wp2_with fail
 refine(zDH _ R C M W0 (H0.out.below hB0)).mono ?_;rintro e w1 ⟨rfl,hb1⟩;rw[hdv];have bx1:=bx1.below hb1;have hB1:=nx hB0 hb1;have hs1:=hb1.size;clear c1 c2 c3 c4 c5 c6 hdv;obtain⟨c1,c2,c3,c4,c5,c6⟩:=bx1.three;subst hR0;go_wp2;go_ret;exact⟨_,rfl,zEW.nil _ _,hB1⟩
theorem zO2(h:n<=R)(h2:n<=C):zGp (genM R C F) n=yL n (fun i=>F i i):=by
 unfold zGp yL;refine zAu fun k hk=>?_
 have hk':=yI.1 hk;exact jM oM oM
theorem zOL(l:List Int)(z:Int):nzL (l++ [z])=if z≠0 then nzL l++ [z]else nzL l:=by
 unfold nzL;by_cases h:z=0
 ·simp[h]
 simp[h]
theorem zJL(hB:BSd B)(v:Value)(M:List (List Int))(R C:Nat)(w:World)(h:zAO w v R C M)(hF:zBc R C M)(hR0:0<R)(hR:R<=1000000)(hC:C<=1000000){f rr:Nat}{y:W5}(hok:okW B R C 0 0 ⟨ent M,zf,zf,zf,zf⟩)
  (hrun:zHZ B R C 0 0 f rr ⟨ent M,zf,zf,zf,zf⟩=some y) (hdiv:∀y',zMf (min R C) y y'->∀i j,i<j->j<min R C->¬ y'.s i i∣y'.s j j->zQR B C 0 0 y' i j) (hel:∀y',zMf (min R C) y y'->∀i,i<min R C->(y'.s i i).natAbs<B):
  Calls Tryz.prog 72 #[v] w fun e w'=>∃v,e= .returned v/\zEW w' w.heap.size v (nzL (yL (min R C) (fun i=>divI (min R C) 0 y.s i i)))/\Below w.heap.size w w':=by
 have hBm:=hB.bsm;have S1:zAN (Sm 1):=⟨(zFm (z:=1) dE).sm⟩;have H0:=xgv h;obtain⟨A,rfl,h⟩:=h;obtain⟨ao,n,cap,rfl,e2,e3,e4,-⟩:=id h;obtain rfl:R=n:=by rw[<-e2,hF.1]
 have hdv:decide (zBL R C M)=true:=decide_eq_true hF.valid;have HF:=xgv hF;have HOK:=xgv hok;have HRUN:=xgv hrun;have HDIV:=xgv hdiv;have HEL:=xgv hel;obtain⟨LL,hLL⟩:∃LL:List Int,yL (min R C) (fun i=>divI (min R C) 0 y.s i i)=LL:=⟨_,rfl⟩;rw[hLL];have HLL:=xgv hLL;clear hok hrun hdiv hel hF e2 hLL;go_enter Tryz.func72,Tryz.ntmps72;go_upto_region 1 with(fail)
 refine zD ?_;intro W0 hW0;obtain⟨hB0,bx1,hs0⟩:=qM hW0;obtain⟨c1,c2,c3,c4,c5,c6⟩:=bx1.three;clear hW0;go_wp2_with fail
 refine(zDH _ R C M W0 (H0.out.below hB0)).mono ?_;rintro e w1 ⟨rfl,hb1⟩;rw[hdv];have bx1:=bx1.below hb1;have hB1:=nx hB0 hb1;have hs1:=hb1.size;clear c1 c2 c3 c4 c5 c6 hdv;obtain⟨c1,c2,c3,c4,c5,c6⟩:=bx1.three;have hl1:=zM9 w1.heap.size R C 0 0 ⟨ent M,zf,zf,zf,zf⟩;have hl2:=zJN w1.heap.size;have hRne:¬ (R:Int)=0:=by omega
 go_upto_region 3 with(fail)
 refine zBM 18 rfl (RG w1 _ [⟨0,15,fun _ v=>v= .agg #[.int .i64 R,.int .i64 C,.slice ao R cap]⟩,⟨1,16,fun w v=>jT w v (1)⟩,⟨3,18,fun _ v=>v= .pointer (some ⟨w.heap.size,0,none⟩)⟩,⟨4,19,fun _ v=>v= .int .i64 R⟩,⟨6,21,fun _ v=>v= .pointer (some ⟨w.heap.size,0,none⟩)⟩,⟨7,22,fun _ v=>v= .int .i64 R⟩,⟨9,24,fun _ v=>v= .pointer (some ⟨w.heap.size,1,none⟩)⟩,⟨10,25,fun _ v=>v= .int .i64 C⟩,⟨12,27,fun _ v=>v= .pointer (some ⟨w.heap.size,1,none⟩)⟩,⟨13,28,fun _ v=>v= .int .i64 C⟩,⟨15,30,zLK w1.heap.size R C 0 0 ⟨ent M,zf,zf,zf,zf⟩⟩,⟨16,31,zLK w1.heap.size R C 0 0 ⟨ent M,zf,zf,zf,zf⟩⟩,⟨17,3,zMl w1.heap.size⟩] [⟨2,17,R,C,ent M⟩,⟨5,20,R,0,zf⟩,⟨8,23,R,0,zf⟩,⟨11,26,C,0,zf⟩,⟨14,29,C,0,zf⟩]) kR RG.start ?fin1 ?steps1
 case steps1=>
  (repeat' constructor)<;>(intro L T wS hL hd hcl hI K hK;try refine zK rfl ?_)
  ·have zt:T[1]?=some (.pointer (some ⟨w.heap.size,0,none⟩)):=hI.keep 1 sI sI
   have cc0:=hI.cell c1;have cc1:=hI.cell c2;have cc2:=hI.cell c3;go_simp;exact hK _ _ (hI.y mm0 rfl)
  ·go_simp
   refine(zGK 1 _ oM oM).mono ?_;rintro e wa ⟨v,rfl,hv,hba⟩;exact hK _ _ ((hI.world hba).y mm1 hv)
  ·obtain⟨_,zt0,rfl⟩:=hI.v mm0 (hd 0)
   obtain⟨v1,zt1,h1⟩:=hI.v mm1 (hd 1);go_simp;refine(zVz hBm _ _ M R C _ ((H0.out.below hB1).below hI.bel) HF.out h1 hR hC HOK.out.1 S1.out).mono ?_;rintro e wa ⟨v,rfl,hv,hba⟩;exact hK _ _ (hI.mat hcl hL ⟨2,17,_,_,_⟩ mm0 rfl hba hv kR)
  ·have zt:T[1]?=some (.pointer (some ⟨w.heap.size,0,none⟩)):=hI.keep 1 sI sI
   go_simp;exact hK _ _ (hI.y mm2 rfl)
  ·obtain⟨_,zt3,rfl⟩:=hI.v mm2 (hd 3)
   have cc0:=hI.cell c1;go_simp;exact hK _ _ (hI.y mm3 rfl)
  ·obtain⟨_,zt4,rfl⟩:=hI.v mm3 (hd 4)
   go_simp;refine(zTr R 0 _ hR (zE _)).mono ?_;rintro e wa ⟨v,rfl,hv,hba⟩;exact hK _ _ (hI.mat hcl hL ⟨5,20,_,_,_⟩ mm1 rfl hba hv kR)
  ·have zt:T[1]?=some (.pointer (some ⟨w.heap.size,0,none⟩)):=hI.keep 1 sI sI
   go_simp;exact hK _ _ (hI.y mm4 rfl)
  ·obtain⟨_,zt6,rfl⟩:=hI.v mm4 (hd 6)
   have cc0:=hI.cell c1;go_simp;exact hK _ _ (hI.y mm5 rfl)
  ·obtain⟨_,zt7,rfl⟩:=hI.v mm5 (hd 7)
   go_simp;refine(zTr R 0 _ hR (zE _)).mono ?_;rintro e wa ⟨v,rfl,hv,hba⟩;exact hK _ _ (hI.mat hcl hL ⟨8,23,_,_,_⟩ mm2 rfl hba hv kR)
  ·have zt:T[1]?=some (.pointer (some ⟨w.heap.size,0,none⟩)):=hI.keep 1 sI sI
   go_simp;exact hK _ _ (hI.y mm6 rfl)
  ·obtain⟨_,zt9,rfl⟩:=hI.v mm6 (hd 9)
   have cc0:=hI.cell c2;go_simp;exact hK _ _ (hI.y mm7 rfl)
  ·obtain⟨_,zt10,rfl⟩:=hI.v mm7 (hd 10)
   go_simp;refine(zTr C 0 _ hC (zE _)).mono ?_;rintro e wa ⟨v,rfl,hv,hba⟩;exact hK _ _ (hI.mat hcl hL ⟨11,26,_,_,_⟩ mm3 rfl hba hv kR)
  ·have zt:T[1]?=some (.pointer (some ⟨w.heap.size,0,none⟩)):=hI.keep 1 sI sI
   go_simp;exact hK _ _ (hI.y mm8 rfl)
  ·obtain⟨_,zt12,rfl⟩:=hI.v mm8 (hd 12)
   have cc0:=hI.cell c2;go_simp;exact hK _ _ (hI.y mm9 rfl)
  ·obtain⟨_,zt13,rfl⟩:=hI.v mm9 (hd 13)
   go_simp;refine(zTr C 0 _ hC (zE _)).mono ?_;rintro e wa ⟨v,rfl,hv,hba⟩;exact hK _ _ (hI.mat hcl hL ⟨14,29,_,_,_⟩ mm4 rfl hba hv kR)
  ·obtain⟨so,sc,uo,uc,vo,vc,wo,wc,xo,xc,t1,t2,t3,t4,t5,hfive⟩:=hI.five oM oM oM oM (hd 2) (hd 5) (hd 8) (hd 11) (hd 14)
   go_simp;exact hK _ _ (hI.y zJE hfive)
  ·obtain⟨v15,zt15,h15⟩:=hI.v zJE (hd 15)
   have h15':zLK w1.heap.size R C 0 0 ⟨ent M,zf,zf,zf,zf⟩ wS v15:=h15;obtain⟨so,sc,uo,uc,vo,vc,wo,wc,xo,xc,bS,bU,bV,bW,bX,rfl,-⟩:=h15'.ex;go_simp;exact hK _ _ (hI.y zJF h15)
  go_simp;exact hK _ _ ((hI.world ((zA _ _).alloc (xgf _) _)).y zJO ⟨_,rfl,qQ _ _ _,hI.bel.size⟩)
 intro T w2 hI;obtain⟨va0,q0,rfl⟩:=hI.v mm0 rfl;obtain⟨va1,q1,ha1⟩:=hI.v mm1 rfl;replace ha1:jT w2 va1 (1):=ha1;obtain⟨va3,q3,rfl⟩:=hI.v mm2 rfl;obtain⟨va4,q4,rfl⟩:=hI.v mm3 rfl;obtain⟨va6,q6,rfl⟩:=hI.v mm4 rfl;obtain⟨va7,q7,rfl⟩:=hI.v mm5 rfl;obtain⟨va9,q9,rfl⟩:=hI.v mm6 rfl;obtain⟨va10,q10,rfl⟩:=hI.v mm7 rfl;obtain⟨va12,q12,rfl⟩:=hI.v mm8 rfl;obtain⟨va13,q13,rfl⟩:=hI.v mm9 rfl;obtain⟨va15,q15,ha15⟩:=hI.v zJE rfl;obtain⟨va16,q16,ha16⟩:=hI.v zJF rfl;obtain⟨va17,q17,ha17⟩:=hI.v zJO rfl;obtain⟨va2,q2,moa2,mca2,mea2⟩:=hI.matv _ mm0 rfl;obtain⟨va5,q5,moa5,mca5,mea5⟩:=hI.matv _ mm1 rfl;obtain⟨va8,q8,moa8,mca8,mea8⟩:=hI.matv _ mm2 rfl;obtain⟨va11,q11,moa11,mca11,mea11⟩:=hI.matv _ mm3 rfl;obtain⟨va14,q14,moa14,mca14,mea14⟩:=hI.matv _ mm4 rfl;have hT:=zED [(15,.agg #[.int .i64 R,.int .i64 C,.slice ao R cap]),(16,va1),(18,.pointer (some ⟨w.heap.size,0,none⟩)),(19,.int .i64 R),(21,.pointer (some ⟨w.heap.size,0,none⟩)),(22,.int .i64 R),(24,.pointer (some ⟨w.heap.size,1,none⟩)),(25,.int .i64 C),(27,.pointer (some ⟨w.heap.size,1,none⟩)),(28,.int .i64 C),(30,va15),(31,va16),(3,va17),(17,va2),(20,va5),(23,va8),(26,va11),(29,va14)]
  (fun j hj=>hI.keep j (by simp only[xgm]at hj ⊢;simp[hj]) (by simp only[xgm]at hj ⊢;simp[hj]))
  (by simp only[xgm];simp[q0,q1,q3,q4,q6,q7,q9,q10,q12,q13,q15,q16,q17,q2,q5,q8,q11,q14]) hI.size
 have hbw2:=hI.bel;clear hI;simp only[List.foldl_cons,List.foldl_nil,xgh,xgi,xgj,ptr]at hT;subst hT;clear q0 q1 q3 q4 q6 q7 q9 q10 q12 q13 q15 q16 q17 q2 q5 q8 q11 q14;simp only[xgl,xgk];have ha16':zLK w1.heap.size R C 0 0 ⟨ent M,zf,zf,zf,zf⟩ w2 va16:=ha16;obtain⟨g,rfl,gb,hgg⟩:zMl w1.heap.size w2 va17:=ha17;obtain⟨so,sc,uo,uc,vo,vc,wo,wc,xo,xc,-,-,-,-,-,rfl,-⟩:=ha16'.ex;have H5:=xgv ha16';obtain⟨⟨q0,q1,q2,q3,q4,q5,q6,q7,q8,q9,q10,q11,q12,q13,q14⟩,⟨f0,f1,f2,f3,f4,f5,f6,f7,f8,f9,f10,f11,f12,f13,f14⟩⟩:=gb.all15;have hB2:=nx hB1 hbw2;have bx1:=bx1.below hbw2;have lg:=gb.lt;clear c1 c2 c3 c4 c5 c6 ha1 ha15 ha16 ha16';clear mea2 mea5 mea8 mea11 mea14;go_upto_region 4 with(fail)
 refine zD ?_;intro W3 hW3;have hgW:Blk W3 g tW #[.int .i64 R,.int .i64 C,.slice so R sc,.int .i64 R,.int .i64 (0:Nat),.slice uo R uc,.int .i64 R,.int .i64 (0:Nat),.slice vo R vc,.int .i64 C,.int .i64 (0:Nat),.slice wo C wc,.int .i64 C,.int .i64 (0:Nat),.slice xo C xc]:=by rw[hW3.out];exact gb.put15 _ _ _ _ _ _ _ _ _ _ _ _ _ _ _
 have hold:∀b,b≠g->W3.heap[b]?=w2.heap[b]?:=fun b hb=>by rw[hW3.out];exact zSR _ _ _ _ _ _ _ _ _ _ _ _ _ _ _ _ _ _ hb
 have hx3:zBq w2 W3:=by rw[hW3.out];exact gb.lext15 dE _ _ _ _ _ _ _ _ _ _ _ _ _ _ _
 have hbl3:Below 0 w2 W3:=by rw[hW3.out];exact zQf (zA _ _) (zE _) _ _ _ _ _ _ _ _ _ _ _ _ _ _ _
 have hB3:Below w.heap.size w W3:=by rw[hW3.out];exact zQf hB2 (by have:=hB0.size;omega) _ _ _ _ _ _ _ _ _ _ _ _ _ _ _
 have hO3:qG (fun b=>b=g) w2 W3:=⟨hbl3,hx3,fun b _ hb=>hold b hb⟩;obtain⟨bS,bU,bV,bW,bX,hwork⟩:=H5.out.work gb hgg hgW hO3;have hsz3:=hbl3.size;have hsz2:=hbw2.size;have HWK:=xgv hwork;clear q0 q1 q2 q3 q4 q5 q6 q7 q8 q9 q10 q11 q12 q13 q14 f0 f1 f2 f3 f4 f5 f6 f7 f8 f9 f10 f11 f12 f13 f14 hW3 hold hx3 hbl3 hO3 hwork gb hgW H5;go_wp2_with fail
 refine(zUg hB HWK.out oM HOK.out hR hC (zE _) (zE _) HRUN.out HDIV.out HEL.out).mono ?_;rintro e w4 ⟨⟨uu,rfl⟩,hO4,AS',bS',bU',bV',bW',bX',y',hdr,hys,hw4⟩;obtain⟨so',sc',rfl⟩:=hw4.mS.shape;have hB4:Below w.heap.size w w4:=zEp hB3 hO4 (by have:=hB1.size;omega) hB3.size;have HW:=xgv hw4;have hLe:zGp (genM R C y'.s) (min R C)=LL:=by rw[zO2 oM oM,hys];exact HLL.out
 have HLE:=xgv hLe;obtain⟨k0,k1,k2,-,-,-,-,-,-,-⟩:=hw4.blk.fifteen;clear hdr hys hw4 HWK hLe;go_wp2_with fail
 refine(zHl _ R C (genM R C y'.s) w4 HW.out.mS.mat (jJ _ _ _) hR hC).mono ?_;rintro e w5 ⟨u5,rfl,hvo,hb5⟩;rw[HLE.out]at hvo;have hlen:LL.length<=1000000:=by rw[<-HLE.out,zFa];omega
 obtain⟨eo,ec,rfl,hec1,hec2⟩:=hvo.len;have hB5:=nx hB4 hb5;have HV5:=xgv hvo.vec;clear k0 k1 k2 hvo;go_wp2;go_loopw [4,38] (fun u iv wr=>∃k:Nat,k<=LL.length/\iv= .int .i64 k/\zEW wr w5.heap.size u (nzL (LL.take k))/\Below w.heap.size w wr/\Below w5.heap.size w5 wr) (fun _ iv _=>LL.length-(intOf iv).toNat)
 case atStart=>exact⟨0,by omega,rfl,by rw[jL];exact zEW.nil _ _,hB5,zA _ _⟩
 obtain⟨k,hk,rfl,ho,hb,hb'⟩:=hrel;by_cases hlt:k<LL.length
 ·obtain⟨b1,z,s,a,l,c,rfl,hbl1,hz,p1,p2,hzv⟩:=(HV5.out.below hb').cell (k:=k) hlt
  have hd:zAN (nzL (LL.take (k+1))=if z≠0 then nzL (LL.take k)++ [z]else nzL (LL.take k)):=⟨by rw[yY,hz];exact zOL _ _⟩;clear hz;go_upto_region 9 with(fail)
  refine zD ?_;intro W6 hW6;obtain⟨hB6,T7,hs6⟩:=qM hW6;obtain⟨d1,d2,d3,d4⟩:=T7.two;have hzv:=hzv.ext (lx hB6);have ho:=ho.below hB6;have hb:=nx hb hB6;have hb':=nx hb' hB6;clear p1 p2 hW6;go_wp2_with fail
  refine(zAa _ z W6 hzv.weak).mono ?_;rintro e w7 ⟨rfl,hb7⟩;have hzv:=hzv.ext (lx hb7);have ho:=ho.below hb7;have hb:=nx hb hb7;have hb':=nx hb' hb7;have T7:=T7.below hb7;clear d1 d2 d3 d4;by_cases hz0:z=0
  ·rw[zBX hz0]
   have hq:zAN (nzL (LL.take (k+1))=nzL (LL.take k)):=⟨by rw[hd.out,if_neg (by simpa using hz0)]⟩;clear hz0;go_wp2;go_roundw
   case rel=>exact⟨k+1,by omega,by simp,by rw[hq.out];exact ho,hb,hb'⟩
   case measure=>simp[intOf];omega
  have hc:=zCi hz0;obtain⟨k0,hk0⟩:∃k0,zAp z 0=k0:=⟨_,rfl⟩;rw[hk0]at hc ⊢
  have hq:zAN (nzL (LL.take (k+1))=nzL (LL.take k)++ [z]):=⟨by rw[hd.out,if_pos hz0]⟩;clear hk0 hz0;obtain⟨d1,d2,d3,d4⟩:=T7.two;have hsz5b:=hb'.size;have hnl:(nzL (LL.take k)).length<=k:=zB (zCD _ _) (by rw[qD];omega);have hszb:=hb.size;go_wp2_with (at_builtin;refine zXe rfl _ _ rfl w5.heap.size u4 (nzL (LL.take k)) rfl (ho.below ((zA _ _).alloc (xgf _) _)) w7.heap.size 1 s a l c z rfl (qQ _ _ _) (hzv.ext (lx ((zA _ _).alloc (xgf _) _))) oM (by simp;omega) ?_;intro v' w' hown hgr hxg)
  have hsz50:=hB5.size;have hgr:World.grownBy (w7.alloc (.cells #[.bool s,.slice a l c] tI)) w' (Value.ownBlock u4):=hgr;have hB9:Below w.heap.size w w':=(hb.alloc hb.size _).grown hgr (by simp;omega) (fun g hg=>by have:=ho.own g hg;omega);have hB9':Below w5.heap.size w5 w':=(hb'.alloc hb'.size _).grown hgr (by simp;omega) (fun g hg=>ho.own g hg);go_roundw
  case rel=>exact⟨k+1,by omega,by simp,by rw[hq.out];exact hown,hB9,hB9'⟩
  case measure=>simp[intOf];omega
 obtain rfl:k=LL.length:=by omega
 rw[yU]at ho;go_wp2;go_ret;exact⟨_,rfl,ho.mono hB5.size,hb⟩


instance (B R C Cu Cw:Nat) (z:W5):Decidable (okW B R C Cu Cw z):=by unfold okW;infer_instance
def zTn(B:Nat)(M:List (List Int)):Bool:=M.all fun r=>r.all fun z=>decide (z.natAbs<B)
def zYK(B:Nat)(X Y:List (List Int))(R m C:Nat):Prop:=∀i,i<R->∀j,j<C->∀k,k<m->(ent X i k).natAbs<B/\(ent Y k j).natAbs<B/\(ent X i k*ent Y k j).natAbs<B/\(zJ1 X Y k i j).natAbs<B
instance (B:Nat) (X Y:List (List Int)) (R m C:Nat):Decidable (zYK B X Y R m C):=by unfold zYK;infer_instance
theorem nxa{W':World}{o:Obj}(h:Below w.heap.size w W)(hb:Below (W.alloc o).heap.size (W.alloc o) W'):Below w.heap.size w W':=nx (h.alloc h.size o) hb
def zOF(ls:List Int):Array Value:=(ls.map (Value.int .i64)).toArray
theorem zHC.new(W:World)(ls:List Int)(hb:(ls.all fun z=>decide (-9223372036854775808<=z/\z<=9223372036854775807))=true)(hl:ls.length<=1000):
  zHC (W.alloc (.cells (zOF ls) 2)) (.slice (some ⟨W.heap.size,0,none⟩) ls.length ls.length) ls:=by
 refine⟨_,_,_,rfl,rfl,xgf _,by omega,fun z hz=>of_decide_eq_true (qW.1 hb z hz),fun _=>⟨W.heap.size,_,rfl,heap_alloc_new W _,fun k z hk=>?_⟩⟩;simp[zOF,hk]
theorem zEr(ls:List Int):zAQ (fun w v=>zHC w v ls):=fun _ _ _ x h=>h.below x
theorem zH1(v:Value)(ls:List Int)(R C:Nat)(r c:Int)(M:List (List Int))(w:World)(h:zHC w v ls)(hr:r=R)(hc:c=C)(hl:ls.length=R*C)(hR:R<=1000)(hC:C<=1000)(hM:genM R C (fun i j=>ls.getD (i*C+j) 0)=M):
  Calls Tryz.prog 51 #[.int .i64 r,.int .i64 c,v] w fun e w'=>∃v,e= .returned v/\zAO w' v R C M/\Below w.heap.size w w':=by
 subst hr;subst hc;subst hM;exact(zTg v R C ls w h hl hR hC).mono fun e w' ⟨v,bs,he,hm,hb⟩=>⟨v,he,hm.mat.1,hb⟩
theorem zYu(R C:Nat)(r c:Int)(w:World)(hr:r=R)(hc:c=C)(hR:R<=1000000)(hC:C<=1000000):
  Calls Tryz.prog 52 #[.int .i64 r,.int .i64 c] w fun e w'=>∃v,e= .returned v/\zAO w' v R C (zDL R C)/\Below w.heap.size w w':=by
 subst hr;subst hc;exact(zG3 R C w hR hC).mono fun e w' ⟨v,bs,he,hm,hb⟩=>⟨v,he,hm.mat.1,hb⟩
theorem zAO.agg{v:Value}{R C:Int}(h:zAO w v R C M):∃o n k,v= .agg #[.int .i64 R,.int .i64 C,.slice o n k]:=by
 obtain⟨A,rfl,ao,n,cap,rfl,-⟩:=h;exact⟨_,_,_,rfl⟩
theorem zWC(v1 v2:Value)(R C:Int)(M:List (List Int))(w:World)(h1:zAO w v1 R C M)(h2:zAO w v2 R C M):
  Calls Tryz.prog 24 #[v1,v2] w fun e w'=>∃v,e= .returned v/\v= .bool true/\Below w.heap.size w w':=
 (zUE v1 v2 R C R C M M w h1 h2).mono fun e w' ⟨h,hb⟩=>⟨_,h,by rw[decide_eq_true ⟨rfl,rfl,rfl⟩],hb⟩
end Go.Proofs.YtkidaebmhlijlaaGreat
