/- Joined. -/
import Derived.Test.YtkidaebmhlijlaaGreatD26
set_option linter.unusedVariables false
set_option linter.unusedSimpArgs false
set_option linter.unusedSectionVars false
set_option maxHeartbeats 16000000
set_option maxRecDepth 100000
namespace Go.Proofs.YtkidaebmhlijlaaGreat
open Go.RowKit
theorem zEU(v:Value)(n:Nat)(ls:List Int)(w:World)(h:I8V w v ls)(hn:n<=16):
  CPq 33 #[v,niq n] w fun e w'=>∃u,e= .returned u/\zAv w' u (qZ n (zHF n ls 0))/\BWq w w':=by
 obtain⟨ao,m,cap,rfl,-⟩:=id h;go_enter Tryz.func33,Tryz.ntmps33;go_wp2_with fail
 refine(zKZ _ 1 n ls w h oM hn).mono ?_;rintro e w1 ⟨u,bs,rfl,⟨hbl,A2,rfl,ho⟩,hb1⟩;have hr:=ho.rows;obtain⟨oo,on,oc,rfl,o2,o3,o4,-⟩:=id hr;obtain⟨b,ra,rn,rc,zs,rfl,hbl2,hz,p1,hrv⟩:=hr.row (k:=0) (by simp[genM]);have hF:zBU 1 n (genM 1 n (zHF n ls)):=yW _ _ _;obtain rfl:=hF.row_eq hz;have hon:on=1:=by rw[<-o2];simp[genM]
 subst hon;have he:qZ n (ent (genM 1 n (zHF n ls)) 0)=qZ n (zHF n ls 0):=qY fun t ht=>yR oM ht
 rw[he]at hrv;clear ho hr hz hF o2 he;have hfl:=zKY;go_wp2;go_ret;exact⟨_,rfl,hrv,hb1⟩
theorem zTg(v:Value)(C:Nat)(x:Nat->Int)(w:World)(h:zAv w v (qZ C x)):
  CPq 38 #[v] w fun e w'=>∃u,e= .returned u/\zAC w' u 1 C [qZ C x]/\BWq w w':=by
 obtain⟨ao,m,cap,rfl,h2,h3,h4,-⟩:=id h;rw[qA]at h2;subst h2;have HX:=xgv h;clear h;go_enter Tryz.func38,Tryz.ntmps38;go_upto_region 1 with(fail)
 refine zD ?_;intro W0 hW0;obtain⟨hb0,br,hs0⟩:=qL hW0;clear hW0;have r1:=br.three;go_wp2;refine zAZ rfl rfl rfl ((br.put3 _ _ _).alloc _) ⟨_,rfl,?_,?_⟩
 ·have hV:zAv ((((W0.setCell ⟨w.heap.size,0,none⟩ (.int .i64 1)).setCell ⟨w.heap.size,1,none⟩ (.int .i64 C)).setCell ⟨w.heap.size,2,none⟩ (.slice (some ⟨W0.heap.size,0,none⟩) 1 1)).alloc (.cells #[.slice ao C cap] 46)) (.slice ao C cap) (qZ C x):=
   HX.out.below ((yJ (yJ (yJ hb0 (xgf _) 0 _) (xgf _) 1 _) (xgf _) 2 _).alloc (by simp;omega) _)
  have hblk:=qX (((W0.setCell ⟨w.heap.size,0,none⟩ (.int .i64 1)).setCell ⟨w.heap.size,1,none⟩ (.int .i64 C)).setCell ⟨w.heap.size,2,none⟩ (.slice (some ⟨W0.heap.size,0,none⟩) 1 1)) 46 #[.slice ao C cap];rw[show((((W0.setCell ⟨w.heap.size,0,none⟩ (.int .i64 1)).setCell ⟨w.heap.size,1,none⟩ (.int .i64 C)).setCell ⟨w.heap.size,2,none⟩ (.slice (some ⟨W0.heap.size,0,none⟩) 1 1))).heap.size=W0.heap.size by simp]at hblk;refine⟨_,rfl,_,1,1,rfl,rfl,xgf _,oM,fun _=>⟨W0.heap.size,#[.slice ao C cap],rfl,hblk,fun k zs hk=>?_⟩⟩;have hk0:k=0:=by
   have:=(xge.1 hk).1;simp at this;omega
  subst hk0;simp at hk;subst hk;exact⟨_,rfl,hV⟩
 exact(yJ (yJ (yJ hb0 (xgf _) 0 _) (xgf _) 1 _) (xgf _) 2 _).alloc (by simp;omega) _
theorem zOk{fn:Func}{a b:Tmp}(h:fn.results=#[.tmp a,.tmp b])(tmps:Array Value)(P:Program)(W:World):(results fn tmps).run P W= .ok (.tuple #[tmps.getD a undef,tmps.getD b undef]) W:=by
 simp[results,h]
theorem zOe(vv hv:Value)(R C:Nat)(M:List (List Int))(x:Nat->Int)(w:World)(hx:zAv w vv (qZ R x))(h:zAC w hv R C M)(hF:zBU R C M)(hR:R<=1000000)(hC:C<=1000000)(hS:zFp [qZ R x] M 1 R C):
  CPq 84 #[vv,hv] w fun e w'=>∃u,e= .returned (.tuple #[u,niq 0])/\zAv w' u (qZ C (zFL [qZ R x] M R 0))/\BWq w w':=by
 have h0:=h;obtain⟨A,rfl,h⟩:=h;obtain⟨mo,mn,mc,rfl,-⟩:=id h;obtain⟨ao,m,cap,rfl,h2,h3,h4,-⟩:=id hx;rw[qA]at h2;subst h2;have HF:=xgv hF;have HS:=xgv hS;have H0:=xgv h0;have HX:=xgv hx;clear hF hS h0 hx h;go_enter Tryz.func84,Tryz.ntmps84;go_upto_region 1 with(fail)
 refine zD ?_;intro W0 hW0;obtain⟨hb0,br,hs0⟩:=qL hW0;have r1:=br.three;have hM:=H0.out.below hb0;have hX:=HX.out.below hb0;have hl1:zAK (fun w v=>zAC w v 1 R [qZ R x]):=fun _ _ _ e h=>h.below e
 have hl2:zAK (fun w v=>zAC w v 1 C (genM 1 C (zFL [qZ R x] M R))):=fun _ _ _ e h=>h.below e
 have hFr:jZ (zBU 1 R [qZ R x]):=⟨rfl,fun r hr=>by simp at hr;subst hr;exact qA _ _⟩;have hlt:=br.lt;clear hW0;go_upto_region 3 with(fail)
 refine yP 4 [pcD 1 [] (fun w v=>zAC w v 1 R [qZ R x]),pcD 3 [1] (fun w v=>zAC w v 1 C (genM 1 C (zFL [qZ R x] M R)))] ?_;refine sRd ?_;refine sRc (fun wS hI Gk hG=>by go_simp;exact ck hG (zTg _ R x _ (hX.below hI.bel))) (fun va1 _=>?_);refine sRd ?_;refine sRc (fun wS hI ha1 Gk hG=>by go_simp;exact ck hG (zQ0 _ _ 1 R C [qZ R x] M _ ha1 (hM.below hI.bel) hFr.out HF.out oM hR hC HS.out)) (fun va3 _=>?_);refine sRe ?_;intro w3 hbw3 ha1 ha3;obtain⟨A2,rfl,hr2⟩:zAC w3 va3 1 C (genM 1 C (zFL [qZ R x] M R)):=ha3;obtain⟨oo,on,oc,rfl,o2,o3,o4,-⟩:=id hr2;obtain⟨b,ra,rn,rc,zs,rfl,hbl2,hz,p1,hrv⟩:=hr2.row (k:=0) (by simp[genM]);have hF2:zBU 1 C (genM 1 C (zFL [qZ R x] M R)):=yW _ _ _;obtain rfl:=hF2.row_eq hz;have hon:on=1:=by rw[<-o2];simp[genM]
 subst hon;have he:qZ C (ent (genM 1 C (zFL [qZ R x] M R)) 0)=qZ C (zFL [qZ R x] M R 0):=qY fun t ht=>yR oM ht
 rw[he]at hrv;have hfl:=zKY;have hB:=nx hb0 hbw3;clear hr2 hz hF2 o2 he ha1 r1 hl1 hl2;go_wp2;refine bodyPost_ret (zOk rfl _ _ _) rfl ?_;exact⟨_,rfl,hrv,hB⟩
theorem zWm(vv hv:Value)(R C:Nat)(M:List (List Int))(x:Nat->Int)(w:World)(hx:zAv w vv (qZ R x))(h:zAC w hv R C M)(hF:zBU R C M)(hR:R<=1000000)(hC:C<=1000000)(hS:zFp [qZ R x] M 1 R C):
  CPq 34 #[vv,hv] w fun e w'=>∃u,e= .returned u/\zAv w' u (qZ C (zFL [qZ R x] M R 0))/\BWq w w':=by
 have h0:=h;obtain⟨A,rfl,h⟩:=h;obtain⟨mo,mn,mc,rfl,-⟩:=id h;obtain⟨ao,m,cap,rfl,-,-,-,-⟩:=id hx;have HF:=xgv hF;have HS:=xgv hS;have H0:=xgv h0;have HX:=xgv hx;clear hF hS h0 hx h;go_enter Tryz.func34,Tryz.ntmps34;go_upto_region 1 with(fail)
 refine zD ?_;intro W0 hW0;obtain⟨hb0,br,hs0⟩:=qL hW0;have r1:=br.three;clear hW0;go_wp2_with fail
 refine(zOe _ _ R C M x W0 (HX.out.below hb0) (H0.out.below hb0) HF.out hR hC HS.out).mono ?_;rintro e w1 ⟨u,rfl,hu,hb1⟩;have hB:=nx hb0 hb1;go_wp2;go_ret;exact⟨_,rfl,hu,hB⟩
theorem zWU(v:Value)(R C:Int)(M:List (List Int))(w:World)(h:zAC w v R C M)(hS:∀r∈M,∀z∈r,Sm z)(hb:zRf R C M):
  CPq 83 #[v] w fun e w'=>∃v,e= .returned v/\v= .bool true/\BWq w w':=by
 refine(zTT v R C M w h hS).mono ?_;rintro e w' ⟨d,rfl,hd,hb'⟩;exact⟨_,rfl,by rw[hd.2 hb],hb'⟩
def qAD(R C:Nat)(W:List (List Int)):World->Value->Prop:=fun w v=>∃U V,zNd w v R C W U V
end Go.Proofs.YtkidaebmhlijlaaGreat
