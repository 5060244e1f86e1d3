/- smith: work.divide. -/
import Derived.Test.YtnocgagoaldfnaaGreatD32
set_option linter.unusedVariables false
set_option linter.unusedSimpArgs false
set_option linter.unusedSectionVars false
namespace Go.Proofs.YtnocgagoaldfnaaGreat
open Go.RowKit
theorem setM_divS {R C : Nat} {F : Nat->Nat->Int} {i j : Nat} {g p : Int} (hi : i < R) (hj : j < R) (hic : i < C) (hjc : j < C) (hg : g = ((Int.gcd (F i i) (F j j) : Nat) : Int)) (hp : p = F i i * (F j j / ((Int.gcd (F i i) (F j j) : Nat) : Int))) :
  setM (setM (genM R C F) i i g) j j p = genM R C (divS F i j):=by
 rw [setM_genM _ hi hic,setM_genM _ hj hjc,hg,hp]
 rfl
theorem divW_eq {z : W5} {i j : Nat} {s t G u v : Int} (hG : G = ((Int.gcd (z.s i i) (z.s j j) : Nat) : Int)) (hu : u = z.s i i / G) (hv : v = z.s j j / G) :
  divW z i j s t = ⟨divS z.s i j,blendF z.u i j s t (-v) u,blendF z.v i j u (-(-v)) (-t) s,blendF z.w i j 1 1 (-(t * v)) (1 - t * v),blendF z.x i j (1 - t * v) (-(-(t * v))) (-1) 1⟩:=by
 rw [Int.neg_neg,Int.neg_neg]
 subst hu
 subst hv
 subst hG
 rfl
theorem WorkV.twUV {w w' : World} {base wb RS CS R C Cu Cw : Nat} {AS AU AV AW AX : Value} {bS bU bV bW bX : List Nat} {z : W5} {F G : Nat->Nat->Int} (h : WorkV w base wb RS CS R C Cu Cw AS AU AV AW AX bS bU bV bW bX z) (ho : OnlyZ (fun b=>b ∈ bU ∨ b ∈ bV) w w') (hu : Wri w' AU R Cu bU F) (hv : Wri w' AV R Cu bV G) :
  WorkV w' base wb RS CS R C Cu Cw AS AU AV AW AX bS bU bV bW bX ⟨z.s,F,G,z.w,z.x⟩/\OnlyZ (fun b=>base<=b) w w':=by
 refine ⟨⟨ho.blk h.blk ?_,h.wbb,h.mS.keepZ ho ?_,hu,hv,h.mW.keepZ ho ?_,h.mX.keepZ ho ?_,h.zb,h.su,h.sv,h.sw,h.sx,h.uv,h.uw,h.ux,h.vw,h.vx,h.wx⟩,ho.mono ?_⟩
 ·rintro (hh | hh)
  ·exact h.mU.nwb h.blk (.inl hh)
  ·exact h.mV.nwb h.blk (.inl hh)
 ·rintro b hb (hh | hh)
  ·exact h.su b hb (.inl hh)
  ·exact h.sv b hb (.inl hh)
 ·rintro b hb (hh | hh)
  ·exact h.uw b (.inl hh) hb
  ·exact h.vw b (.inl hh) hb
 ·rintro b hb (hh | hh)
  ·exact h.ux b (.inl hh) hb
  ·exact h.vx b (.inl hh) hb
 ·rintro b - (hh | hh)
  ·exact h.zb b (.inr (.inl (.inl hh)))
  ·exact h.zb b (.inr (.inr (.inl (.inl hh))))
theorem WorkV.twWX {w w' : World} {base wb RS CS R C Cu Cw : Nat} {AS AU AV AW AX : Value} {bS bU bV bW bX : List Nat} {z : W5} {F G : Nat->Nat->Int} (h : WorkV w base wb RS CS R C Cu Cw AS AU AV AW AX bS bU bV bW bX z) (ho : OnlyZ (fun b=>b ∈ bW ∨ b ∈ bX) w w') (hu : Wri w' AW C Cw bW F) (hv : Wri w' AX C Cw bX G) :
  WorkV w' base wb RS CS R C Cu Cw AS AU AV AW AX bS bU bV bW bX ⟨z.s,z.u,z.v,F,G⟩/\OnlyZ (fun b=>base<=b) w w':=by
 refine ⟨⟨ho.blk h.blk ?_,h.wbb,h.mS.keepZ ho ?_,h.mU.keepZ ho ?_,h.mV.keepZ ho ?_,hu,hv,h.zb,h.su,h.sv,h.sw,h.sx,h.uv,h.uw,h.ux,h.vw,h.vx,h.wx⟩,ho.mono ?_⟩
 ·rintro (hh | hh)
  ·exact h.mW.nwb h.blk (.inl hh)
  ·exact h.mX.nwb h.blk (.inl hh)
 ·rintro b hb (hh | hh)
  ·exact h.sw b hb (.inl hh)
  ·exact h.sx b hb (.inl hh)
 ·rintro b hb (hh | hh)
  ·exact h.uw b hb (.inl hh)
  ·exact h.ux b hb (.inl hh)
 ·rintro b hb (hh | hh)
  ·exact h.vw b hb (.inl hh)
  ·exact h.vx b hb (.inl hh)
 ·rintro b - (hh | hh)
  ·exact h.zb b (.inr (.inr (.inr (.inl (.inl hh)))))
  ·exact h.zb b (.inr (.inr (.inr (.inr (.inl hh)))))
theorem BoxI.blw {Z : Nat->Prop} {w w' : World} {b : Nat} {z : Int} (h : BoxI w b z) (ho : OnlyZ Z w w') (hz : ¬ Z b) : BoxI w' b z:=h.old (ho.old b h.lt hz) ho.lext
set_option maxHeartbeats 8000000 in
set_option maxRecDepth 20000 in
theorem wdivide_any {B : Nat} (hB : BSd B) {w : World} {base wb R C Cu Cw : Nat} {AS AU AV AW AX : Value} {bS bU bV bW bX : List Nat} {z : W5} (h : WorkV w base wb R C R C Cu Cw AS AU AV AW AX bS bU bV bW bX z) {i j : Nat}
  (hij : i < j) (hjR : j < R) (hjC : j < C) (hR : R<=1000000) (hC : C<=1000000) (hCu : Cu<=1000000) (hCw : Cw<=1000000) (hok : DivOk B C Cu Cw z i j) :
  Calls Tryz.prog 93 #[.pointer (some ⟨wb,0,none⟩),.int .i64 i,.int .i64 j] w fun e w'=>(∃u,e = .returned u)/\OnlyZ (fun b=>base<=b) w w' ∧
   ∃s t,Bez (z.s i i) (z.s j j) s t/\WorkV w' base wb R C R C Cu Cw AS AU AV AW AX bS bU bV bW bX (divW z i j s t):=by
 have hBm:=hB.bsm
 obtain ⟨so,sn,sc,rfl,s1,s2,s3,-⟩:=id (RowsO.rows h.mS)
 obtain ⟨uo,un,uc,rfl,u1,u2,u3,-⟩:=id (RowsO.rows h.mU)
 obtain ⟨vo,vn,vc,rfl,v1,v2,v3,-⟩:=id (RowsO.rows h.mV)
 obtain ⟨wo,wn,wc,rfl,w1,w2,w3,-⟩:=id (RowsO.rows h.mW)
 obtain ⟨xo,xn,xc,rfl,x1,x2,x3,-⟩:=id (RowsO.rows h.mX)
 obtain rfl : R = sn:=by rw [<-s1]; simp [genM]
 obtain rfl : R = un:=by rw [<-u1]; simp [genM]
 obtain rfl : R = vn:=by rw [<-v1]; simp [genM]
 obtain rfl : C = wn:=by rw [<-w1]; simp [genM]
 obtain rfl : C = xn:=by rw [<-x1]; simp [genM]
 clear s1 u1 v1 w1 x1 s2 s3 u2 u3 v2 v3 w2 w3 x2 x3
 have hiR : i < R:=by omega
 have hiC : i < C:=by omega
 have hne : i ≠ j:=by omega
 obtain ⟨gs,bi,rfl,hgs,hbi,hbi2,o1,-⟩:=RowsO.at_ h.mS (i:=i) (by rw [h.mS.len]; exact hiR)
 obtain ⟨g2,bj,eg,hg2,hbj,hbj2,o2,-⟩:=RowsO.at_ h.mS (i:=j) (by rw [h.mS.len]; exact hjR)
 obtain rfl : gs = g2:=by injection eg with eg; injection eg
 clear eg
 have H0:=HidS.mk h
 obtain ⟨G,hG⟩ : ∃G : Int,G = ((Int.gcd (z.s i i) (z.s j j) : Nat) : Int):=⟨_,rfl⟩
 obtain ⟨uq,hu⟩ : ∃u : Int,u = z.s i i / G:=⟨_,rfl⟩
 obtain ⟨vq,hv⟩ : ∃v : Int,v = z.s j j / G:=⟨_,rfl⟩
 have HU:=HidS.mk hu
 have HV:=HidS.mk hv
 have HG:=HidS.mk hG
 have hG0 : G ≠ 0:=by rw [hG]; have:=hok.g0; omega
 have HG0:=HidS.mk hG0
 have hGle : G.natAbs<=max (z.s i i).natAbs (z.s j j).natAbs:=by
  rw [hG,Int.natAbs_natCast]
  by_cases hx0 : z.s i i = 0
  ·rw [hx0,Int.gcd_zero_left]; omega
  ·have h3 : Int.gcd (z.s i i) (z.s j j)<=(z.s i i).natAbs:=Nat.le_of_dvd oM (Nat.gcd_dvd_left _ _)
   omega
 have SX : HidS (Smd (z.s i i)):=⟨hB.smd _ hok.sz.1⟩
 have SY : HidS (Smd (z.s j j)):=⟨hB.smd _ hok.sz.2⟩
 have SG : HidS (Sm G):=⟨(hB.smd _ (by have:=hok.sz; omega)).sm⟩
 have HOK:=HidS.mk hok
 clear hu hv hG hG0 hGle hok
 obtain ⟨xs,xa,xl,xc',p1,p2,-,-,hx⟩:=(h.mS.rowAt hiR hbi).cell (genV_get hiC)
 obtain ⟨ys,ya,yl,yc,r1,r2,-,-,hy⟩:=(h.mS.rowAt hjR hbj).cell (genV_get hjC)
 obtain ⟨k0,k1,k2,k5,k8,k11,k14,-,-,-⟩:=h.blk.fifteen
 have lw0:=h.blk.lt
 have hZL : ∀b,(b ∈ bU ∨ b ∈ bV) ∨ (b ∈ bW ∨ b ∈ bX) ∨ b ∈ bS->b < w.heap.size:=by
  rintro b ((hb | hb) | (hb | hb) | hb)
  ·exact h.mU.zlt (.inl hb)
  ·exact h.mV.zlt (.inl hb)
  ·exact h.mW.zlt (.inl hb)
  ·exact h.mX.zlt (.inl hb)
  ·exact h.mS.zlt (.inl hb)
 have HZL:=HidS.mk hZL
 clear h hZL
 go_enter Tryz.func93,Tryz.ntmps93
 go_upto_region 0 with (fail)
 refine wp_region_each rfl (RI w (w.heap.size) _ 45
   [⟨0,15,fun _ v=>v = .pointer (some ⟨wb,0,none⟩)⟩,⟨1,16,fun _ v=>v = .pointer (some ⟨wb,0,none⟩)⟩,⟨2,17,fun _ v=>v = .pointer (some ⟨wb,0,none⟩)⟩,⟨3,18,fun _ v=>v = .pointer (some ⟨wb,0,none⟩)⟩,⟨4,19,fun _ v=>v = .pointer (some ⟨wb,2,none⟩)⟩,⟨5,20,fun _ v=>v = .slice (some ⟨gs,0,none⟩) R sc⟩,⟨6,21,fun _ v=>v = .int .i64 i⟩,⟨7,22,fun _ v=>v = .pointer (some ⟨gs,i,none⟩)⟩,⟨8,23,fun _ v=>v = .slice (some ⟨bi,0,none⟩) C C⟩,⟨9,24,fun _ v=>v = .int .i64 i⟩,⟨10,25,fun _ v=>v = .pointer (some ⟨bi,i * 2,none⟩)⟩,⟨11,26,fun w v=>IntV w v (z.s i i)⟩,⟨12,27,fun _ v=>v = .pointer (some ⟨wb,0,none⟩)⟩,⟨13,28,fun _ v=>v = .pointer (some ⟨wb,0,none⟩)⟩,⟨14,29,fun _ v=>v = .pointer (some ⟨wb,0,none⟩)⟩,⟨15,30,fun _ v=>v = .pointer (some ⟨wb,0,none⟩)⟩,⟨16,31,fun _ v=>v = .pointer (some ⟨wb,2,none⟩)⟩,⟨17,32,fun _ v=>v = .slice (some ⟨gs,0,none⟩) R sc⟩,⟨18,33,fun _ v=>v = .int .i64 j⟩,⟨19,34,fun _ v=>v = .pointer (some ⟨gs,j,none⟩)⟩,⟨20,35,fun _ v=>v = .slice (some ⟨bj,0,none⟩) C C⟩,⟨21,36,fun _ v=>v = .int .i64 j⟩,⟨22,37,fun _ v=>v = .pointer (some ⟨bj,j * 2,none⟩)⟩,⟨23,38,fun w v=>IntV w v (z.s j j)⟩]
   [⟨24,6,26,fun w v=>IntV w v (z.s i i)⟩,⟨25,7,27,fun w v=>IntV w v (z.s j j)⟩] []) kR RI.start ?fin1 ?steps1
 case steps1=>
  refine ⟨?_,?_,?_,?_,?_,?_,?_,?_,?_,?_,?_,?_,?_,?_,?_,?_,?_,?_,?_,?_,?_,?_,?_,?_,?_,?_,?_,?_,trivial⟩ <;> (intro L T wS hL hd hcl hI K hK; try refine step_wanted rfl ?_)
  ·have zt : T[0]? = some (.pointer (some ⟨wb,0,none⟩)):=hI.keep 0 sI sI
   go_simp
   exact hK _ _ (hI.y mm0 rfl)
  ·obtain ⟨v0,zt0,rfl⟩:=hI.v mm0 (hd 0)
   go_simp
   exact hK _ _ (hI.y mm1 rfl)
  ·obtain ⟨v1,zt1,rfl⟩:=hI.v mm1 (hd 1)
   go_simp
   exact hK _ _ (hI.y mm2 rfl)
  ·obtain ⟨v2,zt2,rfl⟩:=hI.v mm2 (hd 2)
   go_simp
   exact hK _ _ (hI.y mm3 rfl)
  ·obtain ⟨v3,zt3,rfl⟩:=hI.v mm3 (hd 3)
   go_simp
   exact hK _ _ (hI.y mm4 rfl)
  ·obtain ⟨v4,zt4,rfl⟩:=hI.v mm4 (hd 4)
   have cc0:=hI.cell k2 oM nom
   go_simp
   exact hK _ _ (hI.y mm5 rfl)
  ·have zt : T[1]? = some (.int .i64 i):=hI.keep 1 sI sI
   go_simp
   exact hK _ _ (hI.y mm6 rfl)
  ·obtain ⟨v5,zt5,rfl⟩:=hI.v mm5 (hd 5)
   obtain ⟨v6,zt6,rfl⟩:=hI.v mm6 (hd 6)
   go_simp
   exact hK _ _ (hI.y mm7 rfl)
  ·obtain ⟨v7,zt7,rfl⟩:=hI.v mm7 (hd 7)
   have cc0:=hI.cell o1 oM nom
   go_simp
   exact hK _ _ (hI.y mm8 rfl)
  ·have zt : T[1]? = some (.int .i64 i):=hI.keep 1 sI sI
   go_simp
   exact hK _ _ (hI.y mm9 rfl)
  ·obtain ⟨v8,zt8,rfl⟩:=hI.v mm8 (hd 8)
   obtain ⟨v9,zt9,rfl⟩:=hI.v mm9 (hd 9)
   go_simp
   exact hK _ _ (hI.y mm10 rfl)
  ·obtain ⟨v10,zt10,rfl⟩:=hI.v mm10 (hd 10)
   have cc0:=hI.cell p1 oM nom
   have cc1:=hI.cell p2 oM nom
   go_simp
   exact hK _ _ (hI.y mm11 (hx.ext hI.lext))
  ·have zt : T[0]? = some (.pointer (some ⟨wb,0,none⟩)):=hI.keep 0 sI sI
   go_simp
   exact hK _ _ (hI.y mm12 rfl)
  ·obtain ⟨v12,zt12,rfl⟩:=hI.v mm12 (hd 12)
   go_simp
   exact hK _ _ (hI.y mm13 rfl)
  ·obtain ⟨v13,zt13,rfl⟩:=hI.v mm13 (hd 13)
   go_simp
   exact hK _ _ (hI.y mm14 rfl)
  ·obtain ⟨v14,zt14,rfl⟩:=hI.v mm14 (hd 14)
   go_simp
   exact hK _ _ (hI.y mm15 rfl)
  ·obtain ⟨v15,zt15,rfl⟩:=hI.v mm15 (hd 15)
   go_simp
   exact hK _ _ (hI.y mm16 rfl)
  ·obtain ⟨v16,zt16,rfl⟩:=hI.v mm16 (hd 16)
   have cc0:=hI.cell k2 oM nom
   go_simp
   exact hK _ _ (hI.y mm17 rfl)
  ·have zt : T[2]? = some (.int .i64 j):=hI.keep 2 sI sI
   go_simp
   exact hK _ _ (hI.y mm18 rfl)
  ·obtain ⟨v17,zt17,rfl⟩:=hI.v mm17 (hd 17)
   obtain ⟨v18,zt18,rfl⟩:=hI.v mm18 (hd 18)
   go_simp
   exact hK _ _ (hI.y mm19 rfl)
  ·obtain ⟨v19,zt19,rfl⟩:=hI.v mm19 (hd 19)
   have cc0:=hI.cell o2 oM nom
   go_simp
   exact hK _ _ (hI.y mm20 rfl)
  ·have zt : T[2]? = some (.int .i64 j):=hI.keep 2 sI sI
   go_simp
   exact hK _ _ (hI.y mm21 rfl)
  ·obtain ⟨v20,zt20,rfl⟩:=hI.v mm20 (hd 20)
   obtain ⟨v21,zt21,rfl⟩:=hI.v mm21 (hd 21)
   go_simp
   exact hK _ _ (hI.y mm22 rfl)
  ·obtain ⟨v22,zt22,rfl⟩:=hI.v mm22 (hd 22)
   have cc0:=hI.cell r1 oM nom
   have cc1:=hI.cell r2 oM nom
   go_simp
   exact hK _ _ (hI.y mm23 (hy.ext hI.lext))
  ·go_simp
   exact hK _ _ (hI.alloc ⟨24,6,26,_⟩ mm0 rfl hL)
  ·go_simp
   exact hK _ _ (hI.alloc ⟨25,7,27,_⟩ mm1 rfl hL)
  ·obtain ⟨v,t1,hv⟩:=hI.v mm11 (hd 11)
   obtain ⟨b,x,y,t2,hb1,hb2,-⟩:=hI.box _ mm0 (hd 24)
   obtain ⟨vneg,vao,vlen,vcap,vls,rfl,hv'⟩:=id hv
   have HT:=Lib.hid t2
   unfold ptr at t2
   obtain ⟨k1,k2,k3,k4⟩:=hb2.two
   go_simp
   exact hK _ _ (hI.store ⟨24,6,26,_⟩ mm0 rfl (hd 24) HT.out hv)
  ·obtain ⟨v,t1,hv⟩:=hI.v mm23 (hd 23)
   obtain ⟨b,x,y,t2,hb1,hb2,-⟩:=hI.box _ mm1 (hd 25)
   obtain ⟨vneg,vao,vlen,vcap,vls,rfl,hv'⟩:=id hv
   have HT:=Lib.hid t2
   unfold ptr at t2
   obtain ⟨k1,k2,k3,k4⟩:=hb2.two
   go_simp
   exact hK _ _ (hI.store ⟨25,7,27,_⟩ mm1 rfl (hd 25) HT.out hv)
 intro T w1 hI
 obtain ⟨va0,q0,rfl⟩:=hI.v mm0 rfl
 obtain ⟨va1,q1,rfl⟩:=hI.v mm1 rfl
 obtain ⟨va2,q2,rfl⟩:=hI.v mm2 rfl
 obtain ⟨va3,q3,rfl⟩:=hI.v mm3 rfl
 obtain ⟨va4,q4,rfl⟩:=hI.v mm4 rfl
 obtain ⟨va5,q5,rfl⟩:=hI.v mm5 rfl
 obtain ⟨va6,q6,rfl⟩:=hI.v mm6 rfl
 obtain ⟨va7,q7,rfl⟩:=hI.v mm7 rfl
 obtain ⟨va8,q8,rfl⟩:=hI.v mm8 rfl
 obtain ⟨va9,q9,rfl⟩:=hI.v mm9 rfl
 obtain ⟨va10,q10,rfl⟩:=hI.v mm10 rfl
 obtain ⟨va11,q11,ha11⟩:=hI.v mm11 rfl
 replace ha11 : IntV w1 va11 (z.s i i):=ha11
 obtain ⟨va12,q12,rfl⟩:=hI.v mm12 rfl
 obtain ⟨va13,q13,rfl⟩:=hI.v mm13 rfl
 obtain ⟨va14,q14,rfl⟩:=hI.v mm14 rfl
 obtain ⟨va15,q15,rfl⟩:=hI.v mm15 rfl
 obtain ⟨va16,q16,rfl⟩:=hI.v mm16 rfl
 obtain ⟨va17,q17,rfl⟩:=hI.v mm17 rfl
 obtain ⟨va18,q18,rfl⟩:=hI.v mm18 rfl
 obtain ⟨va19,q19,rfl⟩:=hI.v mm19 rfl
 obtain ⟨va20,q20,rfl⟩:=hI.v mm20 rfl
 obtain ⟨va21,q21,rfl⟩:=hI.v mm21 rfl
 obtain ⟨va22,q22,rfl⟩:=hI.v mm22 rfl
 obtain ⟨va23,q23,ha23⟩:=hI.v mm23 rfl
 replace ha23 : IntV w1 va23 (z.s j j):=ha23
 obtain ⟨ca24,xa24,ya24,r24,ga24,ka24,ia24⟩:=hI.box _ mm0 rfl
 replace ia24 : IntV w1 (.agg #[xa24,ya24]) (z.s i i):=ia24 rfl
 obtain ⟨ca25,xa25,ya25,r25,ga25,ka25,ia25⟩:=hI.box _ mm1 rfl
 replace ia25 : IntV w1 (.agg #[xa25,ya25]) (z.s j j):=ia25 rfl
 have na24_25:=hI.far _ mm0 _ mm1 sI rfl rfl ca24 ca25 r24 r25
 have hT:=tmps_set [(15,.pointer (some ⟨wb,0,none⟩)),(16,.pointer (some ⟨wb,0,none⟩)),(17,.pointer (some ⟨wb,0,none⟩)),(18,.pointer (some ⟨wb,0,none⟩)),(19,.pointer (some ⟨wb,2,none⟩)),(20,.slice (some ⟨gs,0,none⟩) R sc),(21,.int .i64 i),(22,.pointer (some ⟨gs,i,none⟩)),(23,.slice (some ⟨bi,0,none⟩) C C),(24,.int .i64 i),(25,.pointer (some ⟨bi,i * 2,none⟩)),(26,va11),(27,.pointer (some ⟨wb,0,none⟩)),(28,.pointer (some ⟨wb,0,none⟩)),(29,.pointer (some ⟨wb,0,none⟩)),(30,.pointer (some ⟨wb,0,none⟩)),(31,.pointer (some ⟨wb,2,none⟩)),(32,.slice (some ⟨gs,0,none⟩) R sc),(33,.int .i64 j),(34,.pointer (some ⟨gs,j,none⟩)),(35,.slice (some ⟨bj,0,none⟩) C C),(36,.int .i64 j),(37,.pointer (some ⟨bj,j * 2,none⟩)),(38,va23),(6,ptr ca24),(7,ptr ca25)]
  (fun j hj=>hI.keep j (by simp only [List.forall_mem_cons] at hj ⊢; simp [hj]) (by simp only [List.forall_mem_cons] at hj ⊢; simp [hj]))
  (by simp only [List.forall_mem_cons]; simp [q0,q1,q2,q3,q4,q5,q6,q7,q8,q9,q10,q11,q12,q13,q14,q15,q16,q17,q18,q19,q20,q21,q22,q23,r24,r25]) hI.size
 have hlw1:=hI.lext
 have hbw1:=hI.bel (w.heap.size) oM nom
 have holdw1:=hI.old
 clear hI
 simp only [List.foldl_cons,List.foldl_nil,List.setIfInBounds_toArray,List.set_cons_zero,List.set_cons_succ,ptr] at hT
 subst hT
 clear q0 q1 q2 q3 q4 q5 q6 q7 q8 q9 q10 q11 q12 q13 q14 q15 q16 q17 q18 q19 q20 q21 q22 q23 r24 r25
 have hO:=OnlyZ.of (fun b=>base<=b) hbw1
 have hk:=H0.out.below hbw1
 have H1:=HidS.mk hk
 have z6:=BoxI.mk ka24 ia24
 have z7:=BoxI.mk ka25 ia25
 have hszw:=hbw1.size
 clear k0 k1 k2 k5 k8 k11 k14 o1 o2 p1 p2 r1 r2 hx hy ka24 ka25 ia24 ia25 ha11 ha23 hk H0
 obtain ⟨ns6,na6,nl6,nc6,kk6,ii6⟩:=id z6
 obtain ⟨ns7,na7,nl7,nc7,kk7,ii7⟩:=id z7
 obtain ⟨c1,c2,c3,c4⟩:=kk6.two
 obtain ⟨d1,d2,d3,d4⟩:=kk7.two
 have l6:=kk6.lt
 have l7:=kk7.lt
 go_wp2_with fail
 refine (ext_any _ _ (z.s i i) (z.s j j) w1 ii6 ii7 SX.out SY.out).mono ?_
 rintro e w2 ⟨v1,v2,v3,s,t,rfl,hg,hs,ht,hbez,hsb,htb,hb2⟩
 have HBZ : HidS (Bez (z.s i i) (z.s j j) s t):=⟨⟨hbez,hsb,htb⟩⟩
 rw [<-HG.out] at hg
 have hall:=HOK.out.all G uq vq s t HG.out HU.out HV.out HBZ.out
 have HALL:=HidS.mk hall
 obtain ⟨gn,ga,gl,gc,gx,rfl,hg'⟩:=id hg
 obtain ⟨sn,sa,sl,sc',sx,rfl,hs'⟩:=id hs
 obtain ⟨tn,ta,tl,tc,tx,rfl,ht'⟩:=id ht
 have HG':=Lib.hid hg'
 have HS':=Lib.hid hs'
 have HT':=Lib.hid ht'
 clear hg' hs' ht' hbez hsb htb hall c1 c2 c3 c4 d1 d2 d3 d4
 go_upto_region 2 with (fail)
 refine wp_world ?_
 intro W3 hW3
 obtain ⟨hB3,T8,T9,T10,hs3⟩:=world3 hW3
 have hb23:=nx hb2 hB3
 have hO:=hO.trans (OnlyZ.of _ hb23)
 have H1:=HidS.mk (H1.out.below hb23)
 have z6:=z6.below hb23
 have z7:=z7.below hb23
 have z8:=BoxI.mk T8 (hg.ext (lx hB3))
 have z9:=BoxI.mk T9 (hs.ext (lx hB3))
 have z10:=BoxI.mk T10 (ht.ext (lx hB3))
 have hszw2:=hb23.size
 have hszw3:=hb2.size
 clear hW3 T8 T9 T10 hg hs ht kk6 kk7 ii6 ii7 l6 l7
 obtain ⟨ns6,na6,nl6,nc6,kk6,ii6⟩:=id z6
 obtain ⟨ns7,na7,nl7,nc7,kk7,ii7⟩:=id z7
 obtain ⟨ns8,na8,nl8,nc8,kk8,ii8⟩:=id z8
 obtain ⟨c1,c2,c3,c4⟩:=kk6.two
 obtain ⟨d1,d2,d3,d4⟩:=kk7.two
 obtain ⟨e1,e2,e3,e4⟩:=kk8.two
 have l6:=kk6.lt
 have l7:=kk7.lt
 have l8:=kk8.lt
 refine wp_region_each rfl (RI W3 (W3.heap.size) _ 45
   [⟨0,46,fun _ v=>v = .agg #[.bool ns6,.slice na6 nl6 nc6]⟩,⟨1,47,fun _ v=>v = .agg #[.bool ns8,.slice na8 nl8 nc8]⟩,⟨2,48,fun w v=>IntV w v (uq)⟩,⟨3,49,fun _ v=>v = .agg #[.bool ns7,.slice na7 nl7 nc7]⟩,⟨4,50,fun _ v=>v = .agg #[.bool ns8,.slice na8 nl8 nc8]⟩,⟨5,51,fun w v=>IntV w v (vq)⟩]
   [⟨6,11,8,fun w v=>IntV w v (uq)⟩,⟨7,12,9,fun w v=>IntV w v (vq)⟩] []) kR RI.start ?fin2 ?steps2
 case steps2=>
  refine ⟨?_,?_,?_,?_,?_,?_,?_,?_,?_,?_,trivial⟩ <;> (intro L T wS hL hd hcl hI K hK; try refine step_wanted rfl ?_)
  ·have zt : T[6]? = some (.pointer (some ⟨ca24,0,none⟩)):=hI.keep 6 sI sI
   have cc0:=hI.cell c1 oM nom
   have cc1:=hI.cell c2 oM nom
   go_simp
   exact hK _ _ (hI.y mm0 rfl)
  ·have zt : T[8]? = some (.pointer (some ⟨w2.heap.size,0,none⟩)):=hI.keep 8 sI sI
   have cc0:=hI.cell e1 oM nom
   have cc1:=hI.cell e2 oM nom
   go_simp
   exact hK _ _ (hI.y mm1 rfl)
  ·obtain ⟨v0,zt0,rfl⟩:=hI.v mm0 (hd 0)
   obtain ⟨v1,zt1,rfl⟩:=hI.v mm1 (hd 1)
   go_simp
   refine (quotient_any _ _ (z.s i i) G _ (ii6.ext hI.lext) (ii8.ext hI.lext) SX.out.sm SG.out HG0.out).mono ?_
   rintro e wa ⟨v,rfl,hv,hba⟩
   rw [<-HU.out] at hv
   exact hK _ _ ((hI.world hba).y mm2 hv)
  ·have zt : T[7]? = some (.pointer (some ⟨ca25,0,none⟩)):=hI.keep 7 sI sI
   have cc0:=hI.cell d1 oM nom
   have cc1:=hI.cell d2 oM nom
   go_simp
   exact hK _ _ (hI.y mm3 rfl)
  ·have zt : T[8]? = some (.pointer (some ⟨w2.heap.size,0,none⟩)):=hI.keep 8 sI sI
   have cc0:=hI.cell e1 oM nom
   have cc1:=hI.cell e2 oM nom
   go_simp
   exact hK _ _ (hI.y mm4 rfl)
  ·obtain ⟨v3,zt3,rfl⟩:=hI.v mm3 (hd 3)
   obtain ⟨v4,zt4,rfl⟩:=hI.v mm4 (hd 4)
   go_simp
   refine (quotient_any _ _ (z.s j j) G _ (ii7.ext hI.lext) (ii8.ext hI.lext) SY.out.sm SG.out HG0.out).mono ?_
   rintro e wa ⟨v,rfl,hv,hba⟩
   rw [<-HV.out] at hv
   exact hK _ _ ((hI.world hba).y mm5 hv)
  ·go_simp
   exact hK _ _ (hI.alloc ⟨6,11,8,_⟩ mm0 rfl hL)
  ·go_simp
   exact hK _ _ (hI.alloc ⟨7,12,9,_⟩ mm1 rfl hL)
  ·obtain ⟨v,t1,hv⟩:=hI.v mm2 (hd 2)
   obtain ⟨b,x,y,t2,hb1,hb2,-⟩:=hI.box _ mm0 (hd 6)
   obtain ⟨vneg,vao,vlen,vcap,vls,rfl,hv'⟩:=id hv
   have HT:=Lib.hid t2
   unfold ptr at t2
   obtain ⟨k1,k2,k3,k4⟩:=hb2.two
   go_simp
   exact hK _ _ (hI.store ⟨6,11,8,_⟩ mm0 rfl (hd 6) HT.out hv)
  ·obtain ⟨v,t1,hv⟩:=hI.v mm5 (hd 5)
   obtain ⟨b,x,y,t2,hb1,hb2,-⟩:=hI.box _ mm1 (hd 7)
   obtain ⟨vneg,vao,vlen,vcap,vls,rfl,hv'⟩:=id hv
   have HT:=Lib.hid t2
   unfold ptr at t2
   obtain ⟨k1,k2,k3,k4⟩:=hb2.two
   go_simp
   exact hK _ _ (hI.store ⟨7,12,9,_⟩ mm1 rfl (hd 7) HT.out hv)
 intro T w4 hI
 obtain ⟨vb0,q0,rfl⟩:=hI.v mm0 rfl
 obtain ⟨vb1,q1,rfl⟩:=hI.v mm1 rfl
 obtain ⟨vb2,q2,hb2⟩:=hI.v mm2 rfl
 replace hb2 : IntV w4 vb2 (uq):=hb2
 obtain ⟨vb3,q3,rfl⟩:=hI.v mm3 rfl
 obtain ⟨vb4,q4,rfl⟩:=hI.v mm4 rfl
 obtain ⟨vb5,q5,hb5⟩:=hI.v mm5 rfl
 replace hb5 : IntV w4 vb5 (vq):=hb5
 obtain ⟨cb6,xb6,yb6,r6,gb6,kb6,ib6⟩:=hI.box _ mm0 rfl
 replace ib6 : IntV w4 (.agg #[xb6,yb6]) (uq):=ib6 rfl
 obtain ⟨cb7,xb7,yb7,r7,gb7,kb7,ib7⟩:=hI.box _ mm1 rfl
 replace ib7 : IntV w4 (.agg #[xb7,yb7]) (vq):=ib7 rfl
 have nb6_7:=hI.far _ mm0 _ mm1 sI rfl rfl cb6 cb7 r6 r7
 have hT:=tmps_set [(46,.agg #[.bool ns6,.slice na6 nl6 nc6]),(47,.agg #[.bool ns8,.slice na8 nl8 nc8]),(48,vb2),(49,.agg #[.bool ns7,.slice na7 nl7 nc7]),(50,.agg #[.bool ns8,.slice na8 nl8 nc8]),(51,vb5),(11,ptr cb6),(12,ptr cb7)]
  (fun j hj=>hI.keep j (by simp only [List.forall_mem_cons] at hj ⊢; simp [hj]) (by simp only [List.forall_mem_cons] at hj ⊢; simp [hj]))
  (by simp only [List.forall_mem_cons]; simp [q0,q1,q2,q3,q4,q5,r6,r7]) hI.size
 have hlw4:=hI.lext
 have hbw4:=hI.bel (W3.heap.size) oM nom
 have holdw4:=hI.old
 clear hI
 simp only [List.foldl_cons,List.foldl_nil,List.setIfInBounds_toArray,List.set_cons_zero,List.set_cons_succ,ptr] at hT
 subst hT
 clear q0 q1 q2 q3 q4 q5 r6 r7
 have hO:=hO.trans (OnlyZ.of _ hbw4)
 have H1:=HidS.mk (H1.out.below hbw4)
 have z6:=z6.below hbw4
 have z7:=z7.below hbw4
 have z8:=z8.below hbw4
 have z9:=z9.below hbw4
 have z10:=z10.below hbw4
 have z11:=BoxI.mk kb6 ib6
 have z12:=BoxI.mk kb7 ib7
 have hszw4:=hbw4.size
 clear c1 c2 c3 c4 d1 d2 d3 d4 e1 e2 e3 e4 kk6 kk7 kk8 ii6 ii7 ii8 l6 l7 l8 kb6 kb7 ib6 ib7 hb2 hb5
 obtain ⟨a1,a2,a3,a4,a5,a6⟩:=HALL.out
 have A1:=HidS.mk a1
 have A2:=HidS.mk a2
 have A3:=HidS.mk a3
 have A4:=HidS.mk a4
 have A5:=HidS.mk a5
 have A6:=HidS.mk a6
 clear a1 a2 a3 a4 a5 a6 HALL
 obtain ⟨k0,k1,k2,k5,k8,k11,k14,-,-,-⟩:=H1.out.blk.fifteen
 have lw0:=H1.out.blk.lt
 obtain ⟨ns9,na9,nl9,nc9,kk9,ii9⟩:=id z9
 obtain ⟨ns10,na10,nl10,nc10,kk10,ii10⟩:=id z10
 obtain ⟨ns11,na11,nl11,nc11,kk11,ii11⟩:=id z11
 obtain ⟨ns12,na12,nl12,nc12,kk12,ii12⟩:=id z12
 obtain ⟨c1,c2,c3,c4⟩:=kk9.two
 obtain ⟨d1,d2,d3,d4⟩:=kk10.two
 obtain ⟨e1,e2,e3,e4⟩:=kk11.two
 obtain ⟨f1,f2,f3,f4⟩:=kk12.two
 have l9:=kk9.lt
 have l10:=kk10.lt
 have l11:=kk11.lt
 have l12:=kk12.lt
 have hl2:=lasts_m2 (-vq) uq
 have hl4:=lasts_m4 s t (-vq) uq
 go_upto_region 3 with (fail)
 refine wp_region_headed 23 rfl (RI w4 (w4.heap.size) _ 45
   [⟨0,52,fun _ v=>v = .pointer (some ⟨wb,0,none⟩)⟩,⟨1,53,fun _ v=>v = .pointer (some ⟨wb,0,none⟩)⟩,⟨2,54,fun _ v=>v = .pointer (some ⟨wb,0,none⟩)⟩,⟨3,55,fun _ v=>v = .pointer (some ⟨wb,3,none⟩)⟩,⟨4,56,fun _ v=>v = .pointer (some ⟨wb,5,none⟩)⟩,⟨5,57,fun _ v=>v = .slice uo R uc⟩,⟨6,58,fun _ v=>v = .pointer (some ⟨wb,0,none⟩)⟩,⟨7,59,fun _ v=>v = .pointer (some ⟨wb,0,none⟩)⟩,⟨8,60,fun _ v=>v = .pointer (some ⟨wb,0,none⟩)⟩,⟨9,61,fun _ v=>v = .pointer (some ⟨wb,6,none⟩)⟩,⟨10,62,fun _ v=>v = .pointer (some ⟨wb,8,none⟩)⟩,⟨11,63,fun _ v=>v = .slice vo R vc⟩,⟨12,64,fun _ v=>v = .agg #[.slice none 0 0,.slice uo R uc,.slice vo R vc]⟩,⟨13,65,fun _ v=>v = .int .i64 i⟩,⟨14,66,fun _ v=>v = .int .i64 j⟩,⟨15,67,fun _ v=>v = .agg #[.bool ns9,.slice na9 nl9 nc9]⟩,⟨16,68,fun _ v=>v = .agg #[.bool ns10,.slice na10 nl10 nc10]⟩,⟨17,69,fun _ v=>v = .agg #[.bool ns9,.slice na9 nl9 nc9,.bool ns10,.slice na10 nl10 nc10]⟩,⟨18,70,fun _ v=>v = .agg #[.bool ns12,.slice na12 nl12 nc12]⟩,⟨19,71,fun w v=>IntV w v (-vq)⟩,⟨20,72,fun _ v=>v = .agg #[.bool ns11,.slice na11 nl11 nc11]⟩,⟨21,73,M2V (-vq) uq⟩,⟨22,74,fun w v=>M4V w v s t (-vq) uq⟩]
   [] []) kR RI.start ?fin3 ?steps3
 case steps3=>
  refine ⟨?_,?_,?_,?_,?_,?_,?_,?_,?_,?_,?_,?_,?_,?_,?_,?_,?_,?_,?_,?_,?_,?_,?_,trivial⟩ <;> (intro L T wS hL hd hcl hI K hK; try refine step_wanted rfl ?_)
  ·have zt : T[0]? = some (.pointer (some ⟨wb,0,none⟩)):=hI.keep 0 sI sI
   go_simp
   exact hK _ _ (hI.y mm0 rfl)
  ·obtain ⟨v0,zt0,rfl⟩:=hI.v mm0 (hd 0)
   go_simp
   exact hK _ _ (hI.y mm1 rfl)
  ·obtain ⟨v1,zt1,rfl⟩:=hI.v mm1 (hd 1)
   go_simp
   exact hK _ _ (hI.y mm2 rfl)
  ·obtain ⟨v2,zt2,rfl⟩:=hI.v mm2 (hd 2)
   go_simp
   exact hK _ _ (hI.y mm3 rfl)
  ·obtain ⟨v3,zt3,rfl⟩:=hI.v mm3 (hd 3)
   go_simp
   exact hK _ _ (hI.y mm4 rfl)
  ·obtain ⟨v4,zt4,rfl⟩:=hI.v mm4 (hd 4)
   have cc0:=hI.cell k5 oM nom
   go_simp
   exact hK _ _ (hI.y mm5 rfl)
  ·have zt : T[0]? = some (.pointer (some ⟨wb,0,none⟩)):=hI.keep 0 sI sI
   go_simp
   exact hK _ _ (hI.y mm6 rfl)
  ·obtain ⟨v6,zt6,rfl⟩:=hI.v mm6 (hd 6)
   go_simp
   exact hK _ _ (hI.y mm7 rfl)
  ·obtain ⟨v7,zt7,rfl⟩:=hI.v mm7 (hd 7)
   go_simp
   exact hK _ _ (hI.y mm8 rfl)
  ·obtain ⟨v8,zt8,rfl⟩:=hI.v mm8 (hd 8)
   go_simp
   exact hK _ _ (hI.y mm9 rfl)
  ·obtain ⟨v9,zt9,rfl⟩:=hI.v mm9 (hd 9)
   go_simp
   exact hK _ _ (hI.y mm10 rfl)
  ·obtain ⟨v10,zt10,rfl⟩:=hI.v mm10 (hd 10)
   have cc0:=hI.cell k8 oM nom
   go_simp
   exact hK _ _ (hI.y mm11 rfl)
  ·obtain ⟨v5,zt5,rfl⟩:=hI.v mm5 (hd 5)
   obtain ⟨v11,zt11,rfl⟩:=hI.v mm11 (hd 11)
   go_simp
   exact hK _ _ (hI.y mm12 rfl)
  ·have zt : T[1]? = some (.int .i64 i):=hI.keep 1 sI sI
   go_simp
   exact hK _ _ (hI.y mm13 rfl)
  ·have zt : T[2]? = some (.int .i64 j):=hI.keep 2 sI sI
   go_simp
   exact hK _ _ (hI.y mm14 rfl)
  ·have zt : T[9]? = some (.pointer (some ⟨w2.heap.size + 1,0,none⟩)):=hI.keep 9 sI sI
   have cc0:=hI.cell c1 oM nom
   have cc1:=hI.cell c2 oM nom
   go_simp
   exact hK _ _ (hI.y mm15 rfl)
  ·have zt : T[10]? = some (.pointer (some ⟨w2.heap.size + 1 + 1,0,none⟩)):=hI.keep 10 sI sI
   have cc0:=hI.cell d1 oM nom
   have cc1:=hI.cell d2 oM nom
   go_simp
   exact hK _ _ (hI.y mm16 rfl)
  ·obtain ⟨v15,zt15,rfl⟩:=hI.v mm15 (hd 15)
   obtain ⟨v16,zt16,rfl⟩:=hI.v mm16 (hd 16)
   go_simp
   exact hK _ _ (hI.y mm17 rfl)
  ·have zt : T[12]? = some (.pointer (some ⟨cb7,0,none⟩)):=hI.keep 12 sI sI
   have cc0:=hI.cell f1 oM nom
   have cc1:=hI.cell f2 oM nom
   go_simp
   exact hK _ _ (hI.y mm18 rfl)
  ·obtain ⟨v18,zt18,rfl⟩:=hI.v mm18 (hd 18)
   go_simp
   refine (neg_any _ vq _ (ii12.ext hI.lext).weak (A4.out.ms hBm).2.1).mono ?_
   rintro e wa ⟨v,rfl,hv,hba⟩
   exact hK _ _ ((hI.world hba).y mm19 hv)
  ·have zt : T[11]? = some (.pointer (some ⟨cb6,0,none⟩)):=hI.keep 11 sI sI
   have cc0:=hI.cell e1 oM nom
   have cc1:=hI.cell e2 oM nom
   go_simp
   exact hK _ _ (hI.y mm20 rfl)
  ·obtain ⟨v19,zt19,h19⟩:=hI.v mm19 (hd 19)
   obtain ⟨v20,zt20,rfl⟩:=hI.v mm20 (hd 20)
   obtain ⟨a19,b19,d19,e19,x19,rfl,y19⟩:=id h19
   go_simp
   exact hK _ _ (hI.y mm21 ⟨_,_,_,_,_,_,_,_,rfl,h19,ii11.ext hI.lext⟩)
  ·obtain ⟨v17,zt17,rfl⟩:=hI.v mm17 (hd 17)
   obtain ⟨v21,zt21,h21⟩:=hI.v mm21 (hd 21)
   obtain ⟨p0,p1,p2,p3,p4,p5,p6,p7,rfl,p8,p9⟩:=h21
   go_simp
   exact hK _ _ (hI.y mm22 ⟨_,_,_,_,_,_,_,_,_,_,_,_,_,_,_,_,rfl,ii9.ext hI.lext,ii10.ext hI.lext,p8,p9⟩)
 intro T w5 hI
 obtain ⟨vc0,q0,rfl⟩:=hI.v mm0 rfl
 obtain ⟨vc1,q1,rfl⟩:=hI.v mm1 rfl
 obtain ⟨vc2,q2,rfl⟩:=hI.v mm2 rfl
 obtain ⟨vc3,q3,rfl⟩:=hI.v mm3 rfl
 obtain ⟨vc4,q4,rfl⟩:=hI.v mm4 rfl
 obtain ⟨vc5,q5,rfl⟩:=hI.v mm5 rfl
 obtain ⟨vc6,q6,rfl⟩:=hI.v mm6 rfl
 obtain ⟨vc7,q7,rfl⟩:=hI.v mm7 rfl
 obtain ⟨vc8,q8,rfl⟩:=hI.v mm8 rfl
 obtain ⟨vc9,q9,rfl⟩:=hI.v mm9 rfl
 obtain ⟨vc10,q10,rfl⟩:=hI.v mm10 rfl
 obtain ⟨vc11,q11,rfl⟩:=hI.v mm11 rfl
 obtain ⟨vc12,q12,rfl⟩:=hI.v mm12 rfl
 obtain ⟨vc13,q13,rfl⟩:=hI.v mm13 rfl
 obtain ⟨vc14,q14,rfl⟩:=hI.v mm14 rfl
 obtain ⟨vc15,q15,rfl⟩:=hI.v mm15 rfl
 obtain ⟨vc16,q16,rfl⟩:=hI.v mm16 rfl
 obtain ⟨vc17,q17,rfl⟩:=hI.v mm17 rfl
 obtain ⟨vc18,q18,rfl⟩:=hI.v mm18 rfl
 obtain ⟨vc19,q19,hc19⟩:=hI.v mm19 rfl
 replace hc19 : IntV w5 vc19 (-vq):=hc19
 obtain ⟨vc20,q20,rfl⟩:=hI.v mm20 rfl
 obtain ⟨vc21,q21,hc21⟩:=hI.v mm21 rfl
 obtain ⟨vc22,q22,hc22⟩:=hI.v mm22 rfl
 have hT:=tmps_set [(52,.pointer (some ⟨wb,0,none⟩)),(53,.pointer (some ⟨wb,0,none⟩)),(54,.pointer (some ⟨wb,0,none⟩)),(55,.pointer (some ⟨wb,3,none⟩)),(56,.pointer (some ⟨wb,5,none⟩)),(57,.slice uo R uc),(58,.pointer (some ⟨wb,0,none⟩)),(59,.pointer (some ⟨wb,0,none⟩)),(60,.pointer (some ⟨wb,0,none⟩)),(61,.pointer (some ⟨wb,6,none⟩)),(62,.pointer (some ⟨wb,8,none⟩)),(63,.slice vo R vc),(64,.agg #[.slice none 0 0,.slice uo R uc,.slice vo R vc]),(65,.int .i64 i),(66,.int .i64 j),(67,.agg #[.bool ns9,.slice na9 nl9 nc9]),(68,.agg #[.bool ns10,.slice na10 nl10 nc10]),(69,.agg #[.bool ns9,.slice na9 nl9 nc9,.bool ns10,.slice na10 nl10 nc10]),(70,.agg #[.bool ns12,.slice na12 nl12 nc12]),(71,vc19),(72,.agg #[.bool ns11,.slice na11 nl11 nc11]),(73,vc21),(74,vc22)]
  (fun j hj=>hI.keep j (by simp only [List.forall_mem_cons] at hj ⊢; simp [hj]) (by simp only [List.forall_mem_cons] at hj ⊢; simp [hj]))
  (by simp only [List.forall_mem_cons]; simp [q0,q1,q2,q3,q4,q5,q6,q7,q8,q9,q10,q11,q12,q13,q14,q15,q16,q17,q18,q19,q20,q21,q22]) hI.size
 have hlw5:=hI.lext
 have hbw5:=hI.bel (w4.heap.size) oM nom
 have holdw5:=hI.old
 clear hI
 simp only [List.foldl_cons,List.foldl_nil,List.setIfInBounds_toArray,List.set_cons_zero,List.set_cons_succ,ptr] at hT
 subst hT
 clear q0 q1 q2 q3 q4 q5 q6 q7 q8 q9 q10 q11 q12 q13 q14 q15 q16 q17 q18 q19 q20 q21 q22
 simp only [List.drop_succ_cons,List.drop_zero]
 have hO:=hO.trans (OnlyZ.of _ hbw5)
 have H1:=HidS.mk (H1.out.below hbw5)
 have z6:=z6.below hbw5
 have z7:=z7.below hbw5
 have z8:=z8.below hbw5
 have z10:=z10.below hbw5
 have z12:=z12.below hbw5
 have hszw5:=hbw5.size
 have hm : M4V w5 vc22 s t (-vq) uq:=hc22
 clear k0 k1 k2 k5 k8 k11 k14 c1 c2 c3 c4 d1 d2 d3 d4 e1 e2 e3 e4 f1 f2 f3 f4 kk9 kk10 kk11 kk12 ii9 ii10 ii11 ii12 l9 l10 l11 l12 hl2 hl4 hc19 hc21 hc22 lw0 z9 z11
 obtain ⟨p0,p1,p2,p3,p4,p5,p6,p7,p8,p9,p10,p11,p12,p13,p14,p15,rfl,-⟩:=id hm
 have HM:=HidS.mk hm
 clear hm
 go_wp2_with fail
 refine (twist_any none 0 0 _ _ _ R Cu i j bU bV z.u z.v s t (-vq) uq w5 H1.out.mU H1.out.mV H1.out.uv.far HM.out hiR hjR hne hR hCu (A3.out.bl hBm) (by rw [Int.neg_neg]; exact A4.out.bl hBm) (A3.out.ms hBm)).mono ?_
 rintro e w6 ⟨⟨uu6,rfl⟩,hO6,hU6,hV6⟩
 obtain ⟨hk2,hO6'⟩:=H1.out.twUV hO6 hU6 hV6
 have hO:=hO.trans hO6'
 have H2:=HidS.mk hk2
 have z6:=z6.blw hO6 (fun hh=>by have:=HZL.out _ (.inl hh); omega)
 have z7:=z7.blw hO6 (fun hh=>by have:=HZL.out _ (.inl hh); omega)
 have z8:=z8.blw hO6 (fun hh=>by have:=HZL.out _ (.inl hh); omega)
 have z10:=z10.blw hO6 (fun hh=>by have:=HZL.out _ (.inl hh); omega)
 have z12:=z12.blw hO6 (fun hh=>by have:=HZL.out _ (.inl hh); omega)
 have hszw6:=hO6.bel.size
 clear HM H1 hk2 hU6 hV6
 obtain ⟨ns10,na10,nl10,nc10,kk10,ii10⟩:=id z10
 obtain ⟨ns12,na12,nl12,nc12,kk12,ii12⟩:=id z12
 obtain ⟨d1,d2,d3,d4⟩:=kk10.two
 obtain ⟨f1,f2,f3,f4⟩:=kk12.two
 have l10:=kk10.lt
 have l12:=kk12.lt
 have STV : HidS (Sm t/\Sm vq):=⟨⟨(A3.out.ms hBm).2.1,(A4.out.ms hBm).2.1⟩⟩
 go_upto_region 4 with (fail)
 refine wp_region_each rfl (RI w6 (w6.heap.size) _ 45
   [⟨0,76,fun w v=>IntV w v (1)⟩,⟨1,77,fun _ v=>v = .agg #[.bool ns10,.slice na10 nl10 nc10]⟩,⟨2,78,fun _ v=>v = .agg #[.bool ns12,.slice na12 nl12 nc12]⟩,⟨3,79,fun w v=>IntV w v (t * vq)⟩]
   [⟨4,13,6,fun w v=>IntV w v (1)⟩,⟨5,14,7,fun w v=>IntV w v (t * vq)⟩] []) kR RI.start ?fin4 ?steps4
 case steps4=>
  refine ⟨?_,?_,?_,?_,?_,?_,?_,?_,trivial⟩ <;> (intro L T wS hL hd hcl hI K hK; try refine step_wanted rfl ?_)
  ·go_simp
   refine (of_any 1 _ oM oM).mono ?_
   rintro e wa ⟨v,rfl,hv,hba⟩
   exact hK _ _ ((hI.world hba).y mm0 hv)
  ·have zt : T[10]? = some (.pointer (some ⟨w2.heap.size + 1 + 1,0,none⟩)):=hI.keep 10 sI sI
   have cc0:=hI.cell d1 oM nom
   have cc1:=hI.cell d2 oM nom
   go_simp
   exact hK _ _ (hI.y mm1 rfl)
  ·have zt : T[12]? = some (.pointer (some ⟨cb7,0,none⟩)):=hI.keep 12 sI sI
   have cc0:=hI.cell f1 oM nom
   have cc1:=hI.cell f2 oM nom
   go_simp
   exact hK _ _ (hI.y mm2 rfl)
  ·obtain ⟨v1,zt1,rfl⟩:=hI.v mm1 (hd 1)
   obtain ⟨v2,zt2,rfl⟩:=hI.v mm2 (hd 2)
   go_simp
   refine (mul_any _ _ t vq _ (ii10.ext hI.lext).weak (ii12.ext hI.lext).weak STV.out.1 STV.out.2).mono ?_
   rintro e wa ⟨v,rfl,hv,hba⟩
   exact hK _ _ ((hI.world hba).y mm3 hv)
  ·go_simp
   exact hK _ _ (hI.alloc ⟨4,13,6,_⟩ mm0 rfl hL)
  ·go_simp
   exact hK _ _ (hI.alloc ⟨5,14,7,_⟩ mm1 rfl hL)
  ·obtain ⟨v,t1,hv⟩:=hI.v mm0 (hd 0)
   obtain ⟨b,x,y,t2,hb1,hb2,-⟩:=hI.box _ mm0 (hd 4)
   obtain ⟨vneg,vao,vlen,vcap,vls,rfl,hv'⟩:=id hv
   have HT:=Lib.hid t2
   unfold ptr at t2
   obtain ⟨k1,k2,k3,k4⟩:=hb2.two
   go_simp
   exact hK _ _ (hI.store ⟨4,13,6,_⟩ mm0 rfl (hd 4) HT.out hv)
  ·obtain ⟨v,t1,hv⟩:=hI.v mm3 (hd 3)
   obtain ⟨b,x,y,t2,hb1,hb2,-⟩:=hI.box _ mm1 (hd 5)
   obtain ⟨vneg,vao,vlen,vcap,vls,rfl,hv'⟩:=id hv
   have HT:=Lib.hid t2
   unfold ptr at t2
   obtain ⟨k1,k2,k3,k4⟩:=hb2.two
   go_simp
   exact hK _ _ (hI.store ⟨5,14,7,_⟩ mm1 rfl (hd 5) HT.out hv)
 intro T w7 hI
 obtain ⟨vd0,q0,hd0⟩:=hI.v mm0 rfl
 replace hd0 : IntV w7 vd0 (1):=hd0
 obtain ⟨vd1,q1,rfl⟩:=hI.v mm1 rfl
 obtain ⟨vd2,q2,rfl⟩:=hI.v mm2 rfl
 obtain ⟨vd3,q3,hd3⟩:=hI.v mm3 rfl
 replace hd3 : IntV w7 vd3 (t * vq):=hd3
 obtain ⟨cd4,xd4,yd4,r4,gd4,kd4,id4⟩:=hI.box _ mm0 rfl
 replace id4 : IntV w7 (.agg #[xd4,yd4]) (1):=id4 rfl
 obtain ⟨cd5,xd5,yd5,r5,gd5,kd5,id5⟩:=hI.box _ mm1 rfl
 replace id5 : IntV w7 (.agg #[xd5,yd5]) (t * vq):=id5 rfl
 have nd4_5:=hI.far _ mm0 _ mm1 sI rfl rfl cd4 cd5 r4 r5
 have hT:=tmps_set [(76,vd0),(77,.agg #[.bool ns10,.slice na10 nl10 nc10]),(78,.agg #[.bool ns12,.slice na12 nl12 nc12]),(79,vd3),(13,ptr cd4),(14,ptr cd5)]
  (fun j hj=>hI.keep j (by simp only [List.forall_mem_cons] at hj ⊢; simp [hj]) (by simp only [List.forall_mem_cons] at hj ⊢; simp [hj]))
  (by simp only [List.forall_mem_cons]; simp [q0,q1,q2,q3,r4,r5]) hI.size
 have hlw7:=hI.lext
 have hbw7:=hI.bel (w6.heap.size) oM nom
 have holdw7:=hI.old
 clear hI
 simp only [List.foldl_cons,List.foldl_nil,List.setIfInBounds_toArray,List.set_cons_zero,List.set_cons_succ,ptr] at hT
 subst hT
 clear q0 q1 q2 q3 r4 r5
 have hO:=hO.trans (OnlyZ.of _ hbw7)
 have H2:=HidS.mk (H2.out.below hbw7)
 have z6:=z6.below hbw7
 have z7:=z7.below hbw7
 have z8:=z8.below hbw7
 have z12:=z12.below hbw7
 have z13:=BoxI.mk kd4 id4
 have z14:=BoxI.mk kd5 id5
 have hszw7:=hbw7.size
 clear d1 d2 d3 d4 f1 f2 f3 f4 kk10 kk12 ii10 ii12 l10 l12 kd4 kd5 id4 id5 hd0 hd3 z10 STV
 obtain ⟨k0,k1,k2,k5,k8,k11,k14,-,-,-⟩:=H2.out.blk.fifteen
 have lw0:=H2.out.blk.lt
 obtain ⟨ns13,na13,nl13,nc13,kk13,ii13⟩:=id z13
 obtain ⟨ns14,na14,nl14,nc14,kk14,ii14⟩:=id z14
 obtain ⟨c1,c2,c3,c4⟩:=kk13.two
 obtain ⟨d1,d2,d3,d4⟩:=kk14.two
 have l13:=kk13.lt
 have l14:=kk14.lt
 have hl2:=lasts_m2 (-(t * vq)) (1 - t * vq)
 have hl4:=lasts_m4 1 1 (-(t * vq)) (1 - t * vq)
 go_upto_region 5 with (fail)
 refine wp_region_headed 25 rfl (RI w7 (w7.heap.size) _ 45
   [⟨0,80,fun _ v=>v = .pointer (some ⟨wb,0,none⟩)⟩,⟨1,81,fun _ v=>v = .pointer (some ⟨wb,0,none⟩)⟩,⟨2,82,fun _ v=>v = .pointer (some ⟨wb,0,none⟩)⟩,⟨3,83,fun _ v=>v = .pointer (some ⟨wb,9,none⟩)⟩,⟨4,84,fun _ v=>v = .pointer (some ⟨wb,11,none⟩)⟩,⟨5,85,fun _ v=>v = .slice wo C wc⟩,⟨6,86,fun _ v=>v = .pointer (some ⟨wb,0,none⟩)⟩,⟨7,87,fun _ v=>v = .pointer (some ⟨wb,0,none⟩)⟩,⟨8,88,fun _ v=>v = .pointer (some ⟨wb,0,none⟩)⟩,⟨9,89,fun _ v=>v = .pointer (some ⟨wb,12,none⟩)⟩,⟨10,90,fun _ v=>v = .pointer (some ⟨wb,14,none⟩)⟩,⟨11,91,fun _ v=>v = .slice xo C xc⟩,⟨12,92,fun _ v=>v = .agg #[.slice none 0 0,.slice wo C wc,.slice xo C xc]⟩,⟨13,93,fun _ v=>v = .int .i64 i⟩,⟨14,94,fun _ v=>v = .int .i64 j⟩,⟨15,95,fun _ v=>v = .agg #[.bool ns13,.slice na13 nl13 nc13]⟩,⟨16,96,fun _ v=>v = .agg #[.bool ns13,.slice na13 nl13 nc13]⟩,⟨17,97,fun _ v=>v = .agg #[.bool ns13,.slice na13 nl13 nc13,.bool ns13,.slice na13 nl13 nc13]⟩,⟨18,98,fun _ v=>v = .agg #[.bool ns14,.slice na14 nl14 nc14]⟩,⟨19,99,fun w v=>IntV w v (-(t * vq))⟩,⟨20,100,fun _ v=>v = .agg #[.bool ns13,.slice na13 nl13 nc13]⟩,⟨21,101,fun _ v=>v = .agg #[.bool ns14,.slice na14 nl14 nc14]⟩,⟨22,102,fun w v=>IntV w v (1 - t * vq)⟩,⟨23,103,M2V (-(t * vq)) (1 - t * vq)⟩,⟨24,104,fun w v=>M4V w v 1 1 (-(t * vq)) (1 - t * vq)⟩]
   [] []) kR RI.start ?fin5 ?steps5
 case steps5=>
  refine ⟨?_,?_,?_,?_,?_,?_,?_,?_,?_,?_,?_,?_,?_,?_,?_,?_,?_,?_,?_,?_,?_,?_,?_,?_,?_,trivial⟩ <;> (intro L T wS hL hd hcl hI K hK; try refine step_wanted rfl ?_)
  ·have zt : T[0]? = some (.pointer (some ⟨wb,0,none⟩)):=hI.keep 0 sI sI
   go_simp
   exact hK _ _ (hI.y mm0 rfl)
  ·obtain ⟨v0,zt0,rfl⟩:=hI.v mm0 (hd 0)
   go_simp
   exact hK _ _ (hI.y mm1 rfl)
  ·obtain ⟨v1,zt1,rfl⟩:=hI.v mm1 (hd 1)
   go_simp
   exact hK _ _ (hI.y mm2 rfl)
  ·obtain ⟨v2,zt2,rfl⟩:=hI.v mm2 (hd 2)
   go_simp
   exact hK _ _ (hI.y mm3 rfl)
  ·obtain ⟨v3,zt3,rfl⟩:=hI.v mm3 (hd 3)
   go_simp
   exact hK _ _ (hI.y mm4 rfl)
  ·obtain ⟨v4,zt4,rfl⟩:=hI.v mm4 (hd 4)
   have cc0:=hI.cell k11 oM nom
   go_simp
   exact hK _ _ (hI.y mm5 rfl)
  ·have zt : T[0]? = some (.pointer (some ⟨wb,0,none⟩)):=hI.keep 0 sI sI
   go_simp
   exact hK _ _ (hI.y mm6 rfl)
  ·obtain ⟨v6,zt6,rfl⟩:=hI.v mm6 (hd 6)
   go_simp
   exact hK _ _ (hI.y mm7 rfl)
  ·obtain ⟨v7,zt7,rfl⟩:=hI.v mm7 (hd 7)
   go_simp
   exact hK _ _ (hI.y mm8 rfl)
  ·obtain ⟨v8,zt8,rfl⟩:=hI.v mm8 (hd 8)
   go_simp
   exact hK _ _ (hI.y mm9 rfl)
  ·obtain ⟨v9,zt9,rfl⟩:=hI.v mm9 (hd 9)
   go_simp
   exact hK _ _ (hI.y mm10 rfl)
  ·obtain ⟨v10,zt10,rfl⟩:=hI.v mm10 (hd 10)
   have cc0:=hI.cell k14 oM nom
   go_simp
   exact hK _ _ (hI.y mm11 rfl)
  ·obtain ⟨v5,zt5,rfl⟩:=hI.v mm5 (hd 5)
   obtain ⟨v11,zt11,rfl⟩:=hI.v mm11 (hd 11)
   go_simp
   exact hK _ _ (hI.y mm12 rfl)
  ·have zt : T[1]? = some (.int .i64 i):=hI.keep 1 sI sI
   go_simp
   exact hK _ _ (hI.y mm13 rfl)
  ·have zt : T[2]? = some (.int .i64 j):=hI.keep 2 sI sI
   go_simp
   exact hK _ _ (hI.y mm14 rfl)
  ·have zt : T[13]? = some (.pointer (some ⟨cd4,0,none⟩)):=hI.keep 13 sI sI
   have cc0:=hI.cell c1 oM nom
   have cc1:=hI.cell c2 oM nom
   go_simp
   exact hK _ _ (hI.y mm15 rfl)
  ·have zt : T[13]? = some (.pointer (some ⟨cd4,0,none⟩)):=hI.keep 13 sI sI
   have cc0:=hI.cell c1 oM nom
   have cc1:=hI.cell c2 oM nom
   go_simp
   exact hK _ _ (hI.y mm16 rfl)
  ·obtain ⟨v15,zt15,rfl⟩:=hI.v mm15 (hd 15)
   obtain ⟨v16,zt16,rfl⟩:=hI.v mm16 (hd 16)
   go_simp
   exact hK _ _ (hI.y mm17 rfl)
  ·have zt : T[14]? = some (.pointer (some ⟨cd5,0,none⟩)):=hI.keep 14 sI sI
   have cc0:=hI.cell d1 oM nom
   have cc1:=hI.cell d2 oM nom
   go_simp
   exact hK _ _ (hI.y mm18 rfl)
  ·obtain ⟨v18,zt18,rfl⟩:=hI.v mm18 (hd 18)
   go_simp
   refine (neg_any _ (t * vq) _ (ii14.ext hI.lext).weak (hBm.sm _ A2.out)).mono ?_
   rintro e wa ⟨v,rfl,hv,hba⟩
   exact hK _ _ ((hI.world hba).y mm19 hv)
  ·have zt : T[13]? = some (.pointer (some ⟨cd4,0,none⟩)):=hI.keep 13 sI sI
   have cc0:=hI.cell c1 oM nom
   have cc1:=hI.cell c2 oM nom
   go_simp
   exact hK _ _ (hI.y mm20 rfl)
  ·have zt : T[14]? = some (.pointer (some ⟨cd5,0,none⟩)):=hI.keep 14 sI sI
   have cc0:=hI.cell d1 oM nom
   have cc1:=hI.cell d2 oM nom
   go_simp
   exact hK _ _ (hI.y mm21 rfl)
  ·obtain ⟨v20,zt20,rfl⟩:=hI.v mm20 (hd 20)
   obtain ⟨v21,zt21,rfl⟩:=hI.v mm21 (hd 21)
   go_simp
   refine (sub_any _ _ 1 (t * vq) _ (ii13.ext hI.lext).weak (ii14.ext hI.lext).weak (A5.out.ms hBm).1 (hBm.sm _ A2.out)).mono ?_
   rintro e wa ⟨v,rfl,hv,hba⟩
   exact hK _ _ ((hI.world hba).y mm22 hv)
  ·obtain ⟨v19,zt19,h19⟩:=hI.v mm19 (hd 19)
   obtain ⟨v22,zt22,h22⟩:=hI.v mm22 (hd 22)
   obtain ⟨a19,b19,d19,e19,x19,rfl,y19⟩:=id h19
   obtain ⟨a22,b22,d22,e22,x22,rfl,y22⟩:=id h22
   go_simp
   exact hK _ _ (hI.y mm23 ⟨_,_,_,_,_,_,_,_,rfl,h19,h22⟩)
  ·obtain ⟨v17,zt17,rfl⟩:=hI.v mm17 (hd 17)
   obtain ⟨v23,zt23,h23⟩:=hI.v mm23 (hd 23)
   obtain ⟨p0,p1,p2,p3,p4,p5,p6,p7,rfl,p8,p9⟩:=h23
   go_simp
   exact hK _ _ (hI.y mm24 ⟨_,_,_,_,_,_,_,_,_,_,_,_,_,_,_,_,rfl,ii13.ext hI.lext,ii13.ext hI.lext,p8,p9⟩)
 intro T w8 hI
 obtain ⟨vf0,q0,rfl⟩:=hI.v mm0 rfl
 obtain ⟨vf1,q1,rfl⟩:=hI.v mm1 rfl
 obtain ⟨vf2,q2,rfl⟩:=hI.v mm2 rfl
 obtain ⟨vf3,q3,rfl⟩:=hI.v mm3 rfl
 obtain ⟨vf4,q4,rfl⟩:=hI.v mm4 rfl
 obtain ⟨vf5,q5,rfl⟩:=hI.v mm5 rfl
 obtain ⟨vf6,q6,rfl⟩:=hI.v mm6 rfl
 obtain ⟨vf7,q7,rfl⟩:=hI.v mm7 rfl
 obtain ⟨vf8,q8,rfl⟩:=hI.v mm8 rfl
 obtain ⟨vf9,q9,rfl⟩:=hI.v mm9 rfl
 obtain ⟨vf10,q10,rfl⟩:=hI.v mm10 rfl
 obtain ⟨vf11,q11,rfl⟩:=hI.v mm11 rfl
 obtain ⟨vf12,q12,rfl⟩:=hI.v mm12 rfl
 obtain ⟨vf13,q13,rfl⟩:=hI.v mm13 rfl
 obtain ⟨vf14,q14,rfl⟩:=hI.v mm14 rfl
 obtain ⟨vf15,q15,rfl⟩:=hI.v mm15 rfl
 obtain ⟨vf16,q16,rfl⟩:=hI.v mm16 rfl
 obtain ⟨vf17,q17,rfl⟩:=hI.v mm17 rfl
 obtain ⟨vf18,q18,rfl⟩:=hI.v mm18 rfl
 obtain ⟨vf19,q19,hf19⟩:=hI.v mm19 rfl
 replace hf19 : IntV w8 vf19 (-(t * vq)):=hf19
 obtain ⟨vf20,q20,rfl⟩:=hI.v mm20 rfl
 obtain ⟨vf21,q21,rfl⟩:=hI.v mm21 rfl
 obtain ⟨vf22,q22,hf22⟩:=hI.v mm22 rfl
 replace hf22 : IntV w8 vf22 (1 - t * vq):=hf22
 obtain ⟨vf23,q23,hf23⟩:=hI.v mm23 rfl
 obtain ⟨vf24,q24,hf24⟩:=hI.v mm24 rfl
 have hT:=tmps_set [(80,.pointer (some ⟨wb,0,none⟩)),(81,.pointer (some ⟨wb,0,none⟩)),(82,.pointer (some ⟨wb,0,none⟩)),(83,.pointer (some ⟨wb,9,none⟩)),(84,.pointer (some ⟨wb,11,none⟩)),(85,.slice wo C wc),(86,.pointer (some ⟨wb,0,none⟩)),(87,.pointer (some ⟨wb,0,none⟩)),(88,.pointer (some ⟨wb,0,none⟩)),(89,.pointer (some ⟨wb,12,none⟩)),(90,.pointer (some ⟨wb,14,none⟩)),(91,.slice xo C xc),(92,.agg #[.slice none 0 0,.slice wo C wc,.slice xo C xc]),(93,.int .i64 i),(94,.int .i64 j),(95,.agg #[.bool ns13,.slice na13 nl13 nc13]),(96,.agg #[.bool ns13,.slice na13 nl13 nc13]),(97,.agg #[.bool ns13,.slice na13 nl13 nc13,.bool ns13,.slice na13 nl13 nc13]),(98,.agg #[.bool ns14,.slice na14 nl14 nc14]),(99,vf19),(100,.agg #[.bool ns13,.slice na13 nl13 nc13]),(101,.agg #[.bool ns14,.slice na14 nl14 nc14]),(102,vf22),(103,vf23),(104,vf24)]
  (fun j hj=>hI.keep j (by simp only [List.forall_mem_cons] at hj ⊢; simp [hj]) (by simp only [List.forall_mem_cons] at hj ⊢; simp [hj]))
  (by simp only [List.forall_mem_cons]; simp [q0,q1,q2,q3,q4,q5,q6,q7,q8,q9,q10,q11,q12,q13,q14,q15,q16,q17,q18,q19,q20,q21,q22,q23,q24]) hI.size
 have hlw8:=hI.lext
 have hbw8:=hI.bel (w7.heap.size) oM nom
 have holdw8:=hI.old
 clear hI
 simp only [List.foldl_cons,List.foldl_nil,List.setIfInBounds_toArray,List.set_cons_zero,List.set_cons_succ,ptr] at hT
 subst hT
 clear q0 q1 q2 q3 q4 q5 q6 q7 q8 q9 q10 q11 q12 q13 q14 q15 q16 q17 q18 q19 q20 q21 q22 q23 q24
 simp only [List.drop_succ_cons,List.drop_zero]
 have hO:=hO.trans (OnlyZ.of _ hbw8)
 have H2:=HidS.mk (H2.out.below hbw8)
 have z6:=z6.below hbw8
 have z8:=z8.below hbw8
 have z12:=z12.below hbw8
 have hszw8:=hbw8.size
 have hm : M4V w8 vf24 1 1 (-(t * vq)) (1 - t * vq):=hf24
 clear k0 k1 k2 k5 k8 k11 k14 c1 c2 c3 c4 d1 d2 d3 d4 kk13 kk14 ii13 ii14 l13 l14 hl2 hl4 hf19 hf22 hf23 hf24 lw0 z13 z14 z7
 obtain ⟨p0,p1,p2,p3,p4,p5,p6,p7,p8,p9,p10,p11,p12,p13,p14,p15,rfl,-⟩:=id hm
 have HM:=HidS.mk hm
 clear hm
 go_wp2_with fail
 refine (twist_any none 0 0 _ _ _ C Cw i j bW bX z.w z.x 1 1 (-(t * vq)) (1 - t * vq) w8 H2.out.mW H2.out.mX H2.out.wx.far HM.out hiC hjC hne hC hCw (A5.out.bl hBm) (by rw [Int.neg_neg]; exact A6.out.bl hBm) (A5.out.ms hBm)).mono ?_
 rintro e w9 ⟨⟨uu9,rfl⟩,hO9,hW9,hX9⟩
 obtain ⟨hk2,hO9'⟩:=H2.out.twWX hO9 hW9 hX9
 have hO:=hO.trans hO9'
 have H3:=HidS.mk hk2
 have z6:=z6.blw hO9 (fun hh=>by have:=HZL.out _ (.inr (.inl hh)); omega)
 have z8:=z8.blw hO9 (fun hh=>by have:=HZL.out _ (.inr (.inl hh)); omega)
 have z12:=z12.blw hO9 (fun hh=>by have:=HZL.out _ (.inr (.inl hh)); omega)
 have hszw9:=hO9.bel.size
 clear HM H2 hk2 hW9 hX9
 obtain ⟨k0,k1,k2,k5,k8,k11,k14,-,-,-⟩:=H3.out.blk.fifteen
 have lw0:=H3.out.blk.lt
 obtain ⟨ns6,na6,nl6,nc6,kk6,ii6⟩:=id z6
 obtain ⟨ns8,na8,nl8,nc8,kk8,ii8⟩:=id z8
 obtain ⟨ns12,na12,nl12,nc12,kk12,ii12⟩:=id z12
 obtain ⟨c1,c2,c3,c4⟩:=kk6.two
 obtain ⟨d1,d2,d3,d4⟩:=kk8.two
 obtain ⟨f1,f2,f3,f4⟩:=kk12.two
 have l6:=kk6.lt
 have l8:=kk8.lt
 have l12:=kk12.lt
 obtain ⟨g1,b1,eg1,hg1,hb1,hb12,o1,-⟩:=RowsO.at_ H3.out.mS (i:=i) (by rw [H3.out.mS.len]; exact hiR)
 obtain ⟨g2,b2,eg2,hg2',hb2',hb22,o2,-⟩:=RowsO.at_ H3.out.mS (i:=j) (by rw [H3.out.mS.len]; exact hjR)
 obtain rfl : gs = g1:=by injection eg1 with eg1; injection eg1
 obtain rfl : gs = g2:=by injection eg2 with eg2; injection eg2
 obtain rfl : bi = b1:=Option.some.inj (hbi.symm.trans hb1)
 obtain rfl : bj = b2:=Option.some.inj (hbj.symm.trans hb2')
 clear eg1 eg2 hb1 hb2'
 have hbne : bi ≠ bj:=by
  intro hh
  subst hh
  obtain ⟨f1,f2⟩:=List.getElem?_eq_some_iff.1 hbi
  obtain ⟨g1,g2⟩:=List.getElem?_eq_some_iff.1 hbj
  exact hne ((List.getElem_inj (RowsO.nodup H3.out.mS)).1 (f2.trans g2.symm))
 obtain ⟨sn1,sa1,sl1,sc1,q1,q2,q3,q4,-⟩:=RowsO.cellAt H3.out.mS hbi hiC
 obtain ⟨sn2,sa2,sl2,sc2,m1,m2,m3,m4,-⟩:=RowsO.cellAt H3.out.mS hbj hjC
 go_upto_region 6 with (fail)
 refine wp_region_each rfl (RIS w9 (w9.heap.size) _ 45
   [⟨0,106,fun _ v=>v = .pointer (some ⟨wb,0,none⟩)⟩,⟨1,107,fun _ v=>v = .pointer (some ⟨wb,0,none⟩)⟩,⟨2,108,fun _ v=>v = .pointer (some ⟨wb,0,none⟩)⟩,⟨3,109,fun _ v=>v = .pointer (some ⟨wb,0,none⟩)⟩,⟨4,110,fun _ v=>v = .pointer (some ⟨wb,2,none⟩)⟩,⟨5,111,fun _ v=>v = .slice (some ⟨gs,0,none⟩) R sc⟩,⟨6,112,fun _ v=>v = .int .i64 i⟩,⟨7,113,fun _ v=>v = .pointer (some ⟨gs,i,none⟩)⟩,⟨8,114,fun _ v=>v = .slice (some ⟨bi,0,none⟩) C C⟩,⟨9,115,fun _ v=>v = .int .i64 i⟩,⟨10,116,fun _ v=>v = .pointer (some ⟨wb,0,none⟩)⟩,⟨11,117,fun _ v=>v = .pointer (some ⟨wb,0,none⟩)⟩,⟨12,118,fun _ v=>v = .pointer (some ⟨wb,0,none⟩)⟩,⟨13,119,fun _ v=>v = .pointer (some ⟨wb,0,none⟩)⟩,⟨14,120,fun _ v=>v = .pointer (some ⟨wb,2,none⟩)⟩,⟨15,121,fun _ v=>v = .slice (some ⟨gs,0,none⟩) R sc⟩,⟨16,122,fun _ v=>v = .int .i64 j⟩,⟨17,123,fun _ v=>v = .pointer (some ⟨gs,j,none⟩)⟩,⟨18,124,fun _ v=>v = .slice (some ⟨bj,0,none⟩) C C⟩,⟨19,125,fun _ v=>v = .int .i64 j⟩,⟨20,126,fun _ v=>v = .agg #[.bool ns8,.slice na8 nl8 nc8]⟩,⟨21,127,fun _ v=>v = .agg #[.bool ns6,.slice na6 nl6 nc6]⟩,⟨22,128,fun _ v=>v = .agg #[.bool ns12,.slice na12 nl12 nc12]⟩,⟨23,129,fun w v=>IntV w v (z.s i i * vq)⟩,⟨24,130,fun _ v=>v = .pointer (some ⟨bi,i * 2,none⟩)⟩,⟨26,131,fun _ v=>v = .pointer (some ⟨bj,j * 2,none⟩)⟩]
   [] [] 25 27 (fun w=>(w.setCell ⟨bi,i * 2,none⟩ (.bool ns8)).setCell ⟨bi,i * 2 + 1,none⟩ (.slice na8 nl8 nc8)) (put2At 129 bj (j * 2))) kR (RIS.start RI.start) ?fin6 ?steps6
 case steps6=>
  refine ⟨?_,?_,?_,?_,?_,?_,?_,?_,?_,?_,?_,?_,?_,?_,?_,?_,?_,?_,?_,?_,?_,?_,?_,?_,?_,?_,?_,?_,trivial⟩
  ·refine StepAt.lift kR kR dE ?_
   intro L T wS hL hd hcl hI K hK
   try refine step_wanted rfl ?_
   have zt : T[0]? = some (.pointer (some ⟨wb,0,none⟩)):=hI.keep 0 sI sI
   go_simp
   exact hK _ _ (hI.y mm0 rfl)
  ·refine StepAt.lift kR kR dE ?_
   intro L T wS hL hd hcl hI K hK
   try refine step_wanted rfl ?_
   obtain ⟨v0,zt0,rfl⟩:=hI.v mm0 (hd 0)
   go_simp
   exact hK _ _ (hI.y mm1 rfl)
  ·refine StepAt.lift kR kR dE ?_
   intro L T wS hL hd hcl hI K hK
   try refine step_wanted rfl ?_
   obtain ⟨v1,zt1,rfl⟩:=hI.v mm1 (hd 1)
   go_simp
   exact hK _ _ (hI.y mm2 rfl)
  ·refine StepAt.lift kR kR dE ?_
   intro L T wS hL hd hcl hI K hK
   try refine step_wanted rfl ?_
   obtain ⟨v2,zt2,rfl⟩:=hI.v mm2 (hd 2)
   go_simp
   exact hK _ _ (hI.y mm3 rfl)
  ·refine StepAt.lift kR kR dE ?_
   intro L T wS hL hd hcl hI K hK
   try refine step_wanted rfl ?_
   obtain ⟨v3,zt3,rfl⟩:=hI.v mm3 (hd 3)
   go_simp
   exact hK _ _ (hI.y mm4 rfl)
  ·refine StepAt.lift kR kR dE ?_
   intro L T wS hL hd hcl hI K hK
   try refine step_wanted rfl ?_
   obtain ⟨v4,zt4,rfl⟩:=hI.v mm4 (hd 4)
   have cc0:=hI.cell k2 oM aU
   go_simp
   exact hK _ _ (hI.y mm5 rfl)
  ·refine StepAt.lift kR kR dE ?_
   intro L T wS hL hd hcl hI K hK
   try refine step_wanted rfl ?_
   have zt : T[1]? = some (.int .i64 i):=hI.keep 1 sI sI
   go_simp
   exact hK _ _ (hI.y mm6 rfl)
  ·refine StepAt.lift kR kR dE ?_
   intro L T wS hL hd hcl hI K hK
   try refine step_wanted rfl ?_
   obtain ⟨v5,zt5,rfl⟩:=hI.v mm5 (hd 5)
   obtain ⟨v6,zt6,rfl⟩:=hI.v mm6 (hd 6)
   go_simp
   exact hK _ _ (hI.y mm7 rfl)
  ·refine StepAt.lift kR kR dE ?_
   intro L T wS hL hd hcl hI K hK
   try refine step_wanted rfl ?_
   obtain ⟨v7,zt7,rfl⟩:=hI.v mm7 (hd 7)
   have cc0:=hI.cell o1 oM aU
   go_simp
   exact hK _ _ (hI.y mm8 rfl)
  ·refine StepAt.lift kR kR dE ?_
   intro L T wS hL hd hcl hI K hK
   try refine step_wanted rfl ?_
   have zt : T[1]? = some (.int .i64 i):=hI.keep 1 sI sI
   go_simp
   exact hK _ _ (hI.y mm9 rfl)
  ·refine StepAt.lift kR kR dE ?_
   intro L T wS hL hd hcl hI K hK
   try refine step_wanted rfl ?_
   have zt : T[0]? = some (.pointer (some ⟨wb,0,none⟩)):=hI.keep 0 sI sI
   go_simp
   exact hK _ _ (hI.y mm10 rfl)
  ·refine StepAt.lift kR kR dE ?_
   intro L T wS hL hd hcl hI K hK
   try refine step_wanted rfl ?_
   obtain ⟨v10,zt10,rfl⟩:=hI.v mm10 (hd 10)
   go_simp
   exact hK _ _ (hI.y mm11 rfl)
  ·refine StepAt.lift kR kR dE ?_
   intro L T wS hL hd hcl hI K hK
   try refine step_wanted rfl ?_
   obtain ⟨v11,zt11,rfl⟩:=hI.v mm11 (hd 11)
   go_simp
   exact hK _ _ (hI.y mm12 rfl)
  ·refine StepAt.lift kR kR dE ?_
   intro L T wS hL hd hcl hI K hK
   try refine step_wanted rfl ?_
   obtain ⟨v12,zt12,rfl⟩:=hI.v mm12 (hd 12)
   go_simp
   exact hK _ _ (hI.y mm13 rfl)
  ·refine StepAt.lift kR kR dE ?_
   intro L T wS hL hd hcl hI K hK
   try refine step_wanted rfl ?_
   obtain ⟨v13,zt13,rfl⟩:=hI.v mm13 (hd 13)
   go_simp
   exact hK _ _ (hI.y mm14 rfl)
  ·refine StepAt.lift kR kR dE ?_
   intro L T wS hL hd hcl hI K hK
   try refine step_wanted rfl ?_
   obtain ⟨v14,zt14,rfl⟩:=hI.v mm14 (hd 14)
   have cc0:=hI.cell k2 oM aU
   go_simp
   exact hK _ _ (hI.y mm15 rfl)
  ·refine StepAt.lift kR kR dE ?_
   intro L T wS hL hd hcl hI K hK
   try refine step_wanted rfl ?_
   have zt : T[2]? = some (.int .i64 j):=hI.keep 2 sI sI
   go_simp
   exact hK _ _ (hI.y mm16 rfl)
  ·refine StepAt.lift kR kR dE ?_
   intro L T wS hL hd hcl hI K hK
   try refine step_wanted rfl ?_
   obtain ⟨v15,zt15,rfl⟩:=hI.v mm15 (hd 15)
   obtain ⟨v16,zt16,rfl⟩:=hI.v mm16 (hd 16)
   go_simp
   exact hK _ _ (hI.y mm17 rfl)
  ·refine StepAt.lift kR kR dE ?_
   intro L T wS hL hd hcl hI K hK
   try refine step_wanted rfl ?_
   obtain ⟨v17,zt17,rfl⟩:=hI.v mm17 (hd 17)
   have cc0:=hI.cell o2 oM aU
   go_simp
   exact hK _ _ (hI.y mm18 rfl)
  ·intro L T wS hL hd hcl hI K hK
   try refine step_wanted rfl ?_
   have zt : T[2]? = some (.int .i64 j):=hI.keep sI sI
   go_simp
   exact hK _ _ (hI.value hcl kR hL dE ⟨19,125,_⟩ mm19 rfl (fun _=>rfl))
  ·refine StepAt.lift kR kR dE ?_
   intro L T wS hL hd hcl hI K hK
   try refine step_wanted rfl ?_
   have zt : T[8]? = some (.pointer (some ⟨w2.heap.size,0,none⟩)):=hI.keep 8 sI sI
   have cc0:=hI.cell d1 oM aU
   have cc1:=hI.cell d2 oM aU
   go_simp
   exact hK _ _ (hI.y mm20 rfl)
  ·refine StepAt.lift kR kR dE ?_
   intro L T wS hL hd hcl hI K hK
   try refine step_wanted rfl ?_
   have zt : T[6]? = some (.pointer (some ⟨ca24,0,none⟩)):=hI.keep 6 sI sI
   have cc0:=hI.cell c1 oM aU
   have cc1:=hI.cell c2 oM aU
   go_simp
   exact hK _ _ (hI.y mm21 rfl)
  ·refine StepAt.lift kR kR dE ?_
   intro L T wS hL hd hcl hI K hK
   try refine step_wanted rfl ?_
   have zt : T[12]? = some (.pointer (some ⟨cb7,0,none⟩)):=hI.keep 12 sI sI
   have cc0:=hI.cell f1 oM aU
   have cc1:=hI.cell f2 oM aU
   go_simp
   exact hK _ _ (hI.y mm22 rfl)
  ·refine StepAt.lift kR kR dE ?_
   intro L T wS hL hd hcl hI K hK
   try refine step_wanted rfl ?_
   obtain ⟨v21,zt21,rfl⟩:=hI.v mm21 (hd 21)
   obtain ⟨v22,zt22,rfl⟩:=hI.v mm22 (hd 22)
   go_simp
   refine (mul_any _ _ (z.s i i) vq _ (ii6.ext hI.lext).weak (ii12.ext hI.lext).weak SX.out.sm (A4.out.ms hBm).2.1).mono ?_
   rintro e wa ⟨v,rfl,hv,hba⟩
   exact hK _ _ ((hI.world hba).y mm23 hv)
  ·refine StepAt.lift kR kR dE ?_
   intro L T wS hL hd hcl hI K hK
   try refine step_wanted rfl ?_
   obtain ⟨v8,zt8,rfl⟩:=hI.v mm8 (hd 8)
   obtain ⟨v9,zt9,rfl⟩:=hI.v mm9 (hd 9)
   go_simp
   exact hK _ _ (hI.y mm24 rfl)
  ·intro L T wS hL hd hcl hI K hK
   try refine step_wanted rfl ?_
   obtain ⟨hI0,hIS⟩:=hI.first hcl kR hL dE sI sI sI
   obtain ⟨_,zt24,rfl⟩:=hI0.v mm24 (hd 24)
   obtain ⟨_,zt20,rfl⟩:=hI0.v mm20 (hd 20)
   have hh:=hI0.old bi oM sI
   have cc1:=(cell_same hh).trans q1
   have cc2:=(cell_same hh).trans q2
   have cc3:=(frozen_same hh).trans q3
   have cc4:=(frozen_same hh).trans q4
   clear hh
   go_simp
   exact hK _ _ hIS
  ·intro L T wS hL hd hcl hI K hK
   try refine step_wanted rfl ?_
   obtain ⟨v18,zt18,hz18⟩:=hI.val mm18 (hd 18) (fun _ _ _ h=>h)
   replace hz18 : v18 = .slice (some ⟨bj,0,none⟩) C C:=hz18 wS
   subst hz18
   obtain ⟨v19,zt19,hz19⟩:=hI.val mm19 (hd 19) (fun _ _ _ h=>h)
   replace hz19 : v19 = .int .i64 j:=hz19 wS
   subst hz19
   go_simp
   exact hK _ _ (hI.value hcl kR hL dE ⟨26,131,_⟩ mm25 rfl (fun _=>rfl))
  ·intro L T wS hL hd hcl hI K hK
   try refine step_wanted rfl ?_
   obtain ⟨w0,rfl,hI0,hIS⟩:=hI.second (hd 25) hL sI sI sI
   obtain ⟨_,zt26,rfl⟩:=hI0.v mm25 (hd 26)
   obtain ⟨v23,zt23,h23⟩:=hI0.v mm23 (hd 23)
   obtain ⟨vneg,vao,vlen,vcap,vls,rfl,hv'⟩:=id h23
   have hh : ((w0.setCell ⟨bi,i * 2,none⟩ (.bool ns8)).setCell ⟨bi,i * 2 + 1,none⟩ (.slice na8 nl8 nc8)).heap[bj]? = w9.heap[bj]?:=(set2_old _ _ _ _ _ _ _ (Ne.symm hbne)).trans (hI0.old bj oM sI)
   have cc1:=(cell_same hh).trans m1
   have cc2:=(cell_same hh).trans m2
   have cc3:=(frozen_same hh).trans m3
   have cc4:=(frozen_same hh).trans m4
   clear hh
   obtain ⟨e1,e2⟩:=cellOf_two zt23
   simp only [put2At,e1,e2] at hIS
   go_simp
   exact hK _ _ hIS
 intro T wf6 hIS
 obtain ⟨w10,hI,hwfg⟩:=hIS.fin dE
 obtain ⟨vg0,q0,rfl⟩:=hI.v mm0 rfl
 obtain ⟨vg1,q1,rfl⟩:=hI.v mm1 rfl
 obtain ⟨vg2,q2,rfl⟩:=hI.v mm2 rfl
 obtain ⟨vg3,q3,rfl⟩:=hI.v mm3 rfl
 obtain ⟨vg4,q4,rfl⟩:=hI.v mm4 rfl
 obtain ⟨vg5,q5,rfl⟩:=hI.v mm5 rfl
 obtain ⟨vg6,q6,rfl⟩:=hI.v mm6 rfl
 obtain ⟨vg7,q7,rfl⟩:=hI.v mm7 rfl
 obtain ⟨vg8,q8,rfl⟩:=hI.v mm8 rfl
 obtain ⟨vg9,q9,rfl⟩:=hI.v mm9 rfl
 obtain ⟨vg10,q10,rfl⟩:=hI.v mm10 rfl
 obtain ⟨vg11,q11,rfl⟩:=hI.v mm11 rfl
 obtain ⟨vg12,q12,rfl⟩:=hI.v mm12 rfl
 obtain ⟨vg13,q13,rfl⟩:=hI.v mm13 rfl
 obtain ⟨vg14,q14,rfl⟩:=hI.v mm14 rfl
 obtain ⟨vg15,q15,rfl⟩:=hI.v mm15 rfl
 obtain ⟨vg16,q16,rfl⟩:=hI.v mm16 rfl
 obtain ⟨vg17,q17,rfl⟩:=hI.v mm17 rfl
 obtain ⟨vg18,q18,rfl⟩:=hI.v mm18 rfl
 obtain ⟨vg19,q19,rfl⟩:=hI.v mm19 rfl
 obtain ⟨vg20,q20,rfl⟩:=hI.v mm20 rfl
 obtain ⟨vg21,q21,rfl⟩:=hI.v mm21 rfl
 obtain ⟨vg22,q22,rfl⟩:=hI.v mm22 rfl
 obtain ⟨vg23,q23,hg23⟩:=hI.v mm23 rfl
 replace hg23 : IntV w10 vg23 (z.s i i * vq):=hg23
 obtain ⟨vg24,q24,rfl⟩:=hI.v mm24 rfl
 obtain ⟨vg26,q26,rfl⟩:=hI.v mm25 rfl
 have hT:=tmps_set [(106,.pointer (some ⟨wb,0,none⟩)),(107,.pointer (some ⟨wb,0,none⟩)),(108,.pointer (some ⟨wb,0,none⟩)),(109,.pointer (some ⟨wb,0,none⟩)),(110,.pointer (some ⟨wb,2,none⟩)),(111,.slice (some ⟨gs,0,none⟩) R sc),(112,.int .i64 i),(113,.pointer (some ⟨gs,i,none⟩)),(114,.slice (some ⟨bi,0,none⟩) C C),(115,.int .i64 i),(116,.pointer (some ⟨wb,0,none⟩)),(117,.pointer (some ⟨wb,0,none⟩)),(118,.pointer (some ⟨wb,0,none⟩)),(119,.pointer (some ⟨wb,0,none⟩)),(120,.pointer (some ⟨wb,2,none⟩)),(121,.slice (some ⟨gs,0,none⟩) R sc),(122,.int .i64 j),(123,.pointer (some ⟨gs,j,none⟩)),(124,.slice (some ⟨bj,0,none⟩) C C),(125,.int .i64 j),(126,.agg #[.bool ns8,.slice na8 nl8 nc8]),(127,.agg #[.bool ns6,.slice na6 nl6 nc6]),(128,.agg #[.bool ns12,.slice na12 nl12 nc12]),(129,vg23),(130,.pointer (some ⟨bi,i * 2,none⟩)),(131,.pointer (some ⟨bj,j * 2,none⟩))]
  (fun j hj=>hI.keep j (by simp only [List.forall_mem_cons] at hj ⊢; simp [hj]) (by simp only [List.forall_mem_cons] at hj ⊢; simp [hj]))
  (by simp only [List.forall_mem_cons]; simp [q0,q1,q2,q3,q4,q5,q6,q7,q8,q9,q10,q11,q12,q13,q14,q15,q16,q17,q18,q19,q20,q21,q22,q23,q24,q26]) hI.size
 have hlw10:=hI.lext
 have hbw10:=hI.bel (w9.heap.size) oM aU
 have holdw10:=hI.old
 clear hI
 simp only [List.foldl_cons,List.foldl_nil,List.setIfInBounds_toArray,List.set_cons_zero,List.set_cons_succ,ptr] at hT
 subst hT
 clear q0 q1 q2 q3 q4 q5 q6 q7 q8 q9 q10 q11 q12 q13 q14 q15 q16 q17 q18 q19 q20 q21 q22 q23 q24 q26
 have hO:=hO.trans (OnlyZ.of _ hbw10)
 have H3:=HidS.mk (H3.out.below hbw10)
 have iG:=ii8.ext (lx hbw10)
 clear k0 k1 k2 k5 k8 k11 k14 c1 c2 c3 c4 d1 d2 d3 d4 f1 f2 f3 f4 o1 o2 kk6 kk8 kk12 ii6 ii8 ii12 l6 l8 l12 z6 z8 z12
 clear q1 q2 q3 q4 m1 m2 m3 m4
 obtain ⟨qn,qa,ql,qc,qx,rfl,hqx⟩:=id hg23
 have hwf : wf6 = (((w10.setCell ⟨bi,i * 2,none⟩ (.bool ns8)).setCell ⟨bi,i * 2 + 1,none⟩ (.slice na8 nl8 nc8)).setCell ⟨bj,j * 2,none⟩ (.bool qn)).setCell ⟨bj,j * 2 + 1,none⟩ (.slice qa ql qc):=hwfg
 subst hwf
 clear hwfg
 have HQX:=Lib.hid hqx
 clear hqx
 have hset1:=RowsO.set H3.out.mS hbi hiC iG
 have hset2:=hset1.1.set hbj hjC (hg23.ext hset1.2.1)
 have HSET:=HidS.mk hset2
 have HX1:=HidS.mk hset1.2.1
 clear hset1 hset2
 go_wp2
 have hS:=HSET.out.1
 rw [setM_divS hiR hjR hiC hjC HG.out (by rw [<-HG.out,<-HV.out])] at hS
 have hxx:=HX1.out.trans HSET.out.2.1
 have hn1 : ∀b,b ≠ bi->b ≠ bj->((((w10.setCell ⟨bi,i * 2,none⟩ (.bool ns8)).setCell ⟨bi,i * 2 + 1,none⟩ (.slice na8 nl8 nc8)).setCell ⟨bj,j * 2,none⟩ (.bool qn)).setCell ⟨bj,j * 2 + 1,none⟩ (.slice qa ql qc)).heap[b]? = w10.heap[b]?:=fun b h1 h2=>(set2_old _ _ _ _ _ _ _ h2).trans (set2_old _ _ _ _ _ _ _ h1)
 have hmi:=List.mem_of_getElem? hbi
 have hmj:=List.mem_of_getElem? hbj
 have hO10 : OnlyZ (fun b=>b = bi ∨ b = bj) w10 _:=⟨bset (bset (bset (bset (Below.refl _ _) (Nat.zero_le _) _ _) (Nat.zero_le _) _ _) (Nat.zero_le _) _ _) (Nat.zero_le _) _ _,hxx,fun b _ hb=>hn1 b (fun h=>hb (.inl h)) (fun h=>hb (.inr h))⟩
 have h3:=H3.out
 refine bodyPost_end (results_none rfl _ _ _) rfl ⟨⟨_,rfl⟩,hO.trans (hO10.mono ?_),s,t,HBZ.out,?_⟩
 ·rintro b - (rfl | rfl)
  ·exact h3.zb _ (.inl (.inl hmi))
  ·exact h3.zb _ (.inl (.inl hmj))
 ·rw [divW_eq HG.out HU.out HV.out]
  refine ⟨hO10.blk h3.blk ?_,h3.wbb,hS,h3.mU.keepZ hO10 ?_,h3.mV.keepZ hO10 ?_,h3.mW.keepZ hO10 ?_,h3.mX.keepZ hO10 ?_,h3.zb,h3.su,h3.sv,h3.sw,h3.sx,h3.uv,h3.uw,h3.ux,h3.vw,h3.vx,h3.wx⟩
  ·rintro (rfl | rfl)
   ·exact h3.mS.nwb h3.blk (.inl hmi)
   ·exact h3.mS.nwb h3.blk (.inl hmj)
  ·rintro b hb (rfl | rfl)
   ·exact h3.su _ (.inl hmi) hb
   ·exact h3.su _ (.inl hmj) hb
  ·rintro b hb (rfl | rfl)
   ·exact h3.sv _ (.inl hmi) hb
   ·exact h3.sv _ (.inl hmj) hb
  ·rintro b hb (rfl | rfl)
   ·exact h3.sw _ (.inl hmi) hb
   ·exact h3.sw _ (.inl hmj) hb
  ·rintro b hb (rfl | rfl)
   ·exact h3.sx _ (.inl hmi) hb
   ·exact h3.sx _ (.inl hmj) hb
end Go.Proofs.YtnocgagoaldfnaaGreat
