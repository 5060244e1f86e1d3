/- torsionref12: operations on the work; Moved. torsionref12.Form. torsionref12: Rank, Top, Basis. kernel.Left. kernel.transposed, through, Saturate. kernel.through, kernel.Saturate, kernel.Saturated. matrix.Equal for other sizes; kernel.Saturate, kernel.Saturated. kernel.Saturated. torsionref15.Left, torsionref15.Saturate. torsionref26.Cycles: a basis of the cycles of a dimension. torsionref26.Cycles of the reference's complexes; torsionref26.Grown. -/
import Derived.Test.YtjdemlfceaikgaaGreatK04
import Derived.Test.YtjdemlfceaikgaaGreatK10
import Derived.Test.YtjdemlfceaikgaaGreatK13
import Derived.Test.YtjdemlfceaikgaaGreatK14
import Derived.Test.YtjdemlfceaikgaaGreatK15
import Derived.Test.YtjdemlfceaikgaaGreatK17
import Derived.Test.YtjdemlfceaikgaaGreatK18
import Derived.Test.YtjdemlfceaikgaaGreatK19
import Derived.Test.YtjdemlfceaikgaaGreatK20
set_option linter.unusedVariables false
set_option linter.unusedSimpArgs false
set_option linter.unusedSectionVars false
namespace Go.Proofs.YtjdemlfceaikgaaGreat
open Go.RowKit
theorem OnlyZ.to {Z Z' : Nat->Prop} {w w' : World} (h : OnlyZ Z w w') (hz : ∀b,Z b->Z' b) : OnlyZ Z' w w':=h.mono fun b _ hb=>hz b hb
section
variable {Z : Nat->Prop} {w : World} {bw R C : Nat} {x : Bst}
theorem kw_add (h : KW Z w bw R C x) {i j : Nat} (hi : i < R) (hj : j < R) (hij : i ≠ j) {kv : Value} {k : Int} (hk : IntV w kv k) (hob : okB BD R C R x) (hok : okAdd BD R C R x i j k) (hR : R<=1000000) (hC : C<=1000000) :
  Calls Tryz.prog 139 #[.pointer (some ⟨bw,0,none⟩),.int .i64 i,.int .i64 j,kv] w fun e w'=>(∃u,e = .returned u)/\OnlyZ Z w w'/\KW Z w' bw R C (x.add i j k):=by
 obtain ⟨AM,AU,AV,bm,bu,bv,h1,h2⟩:=h
 obtain ⟨o1,o2,o3⟩:=hob
 obtain ⟨k1,k2,k3,k4⟩:=hok
 refine (r12add_any bw AM AU AV R C i j bm bu bv x kv k w h1 hi hj hij hk (BD_sm k1) hR hC (fun t ht=>⟨BD_sm (o1 i hi t ht),BD_sm (o1 j hj t ht),BD_sm (k2 t ht)⟩) (fun t ht=>⟨BD_sm (o2 i hi t ht),BD_sm (o2 j hj t ht),BD_sm (k3 t ht).1⟩)
  (fun t ht=>⟨BD_sm (o3 j hj t ht),BD_sm (o3 i hi t ht),BD_sm (k3 t ht).2⟩)).mono ?_
 rintro e w' ⟨hu,ho,hk'⟩
 exact ⟨hu,ho.to h2,AM,AU,AV,bm,bu,bv,hk',h2⟩
theorem kw_neg (h : KW Z w bw R C x) {i : Nat} (hi : i < R) (hob : okB BD R C R x) (hR : R<=1000000) (hC : C<=1000000) :
  Calls Tryz.prog 142 #[.pointer (some ⟨bw,0,none⟩),.int .i64 i] w fun e w'=>(∃u,e = .returned u)/\OnlyZ Z w w'/\KW Z w' bw R C (x.neg i):=by
 obtain ⟨AM,AU,AV,bm,bu,bv,h1,h2⟩:=h
 obtain ⟨o1,o2,o3⟩:=hob
 refine (r12neg_any bw AM AU AV R C i bm bu bv x w h1 hi hR hC (fun t ht=>BD_sm (o1 i hi t ht)) (fun t ht=>BD_sm (o2 i hi t ht)) (fun t ht=>BD_sm (o3 i hi t ht))).mono ?_
 rintro e w' ⟨hu,ho,hk'⟩
 exact ⟨hu,ho.to h2,AM,AU,AV,bm,bu,bv,hk',h2⟩
theorem kw_swap (h : KW Z w bw R C x) {i j : Nat} (hi : i < R) (hj : j < R) (hR : R<=1000000) (hC : C<=1000000) :
  Calls Tryz.prog 141 #[.pointer (some ⟨bw,0,none⟩),.int .i64 i,.int .i64 j] w fun e w'=>(∃u,e = .returned u)/\OnlyZ Z w w'/\KW Z w' bw R C (x.swap i j):=by
 obtain ⟨AM,AU,AV,bm,bu,bv,h1,h2⟩:=h
 refine (r12swap_any bw AM AU AV R C i j bm bu bv x w h1 hi hj hR hC).mono ?_
 rintro e w' ⟨hu,ho,hk'⟩
 have l1:=h1.m.len
 have l2:=h1.u.len
 exact ⟨hu,ho.to h2,AM,AU,AV,swpL bm i j,swpL bu i j,bv,hk',fun b hb=>h2 b (hb.imp (zn_swpL oM oM) (Or.imp (zn_swpL oM oM) id))⟩
theorem KW.blk (h : KW Z w bw R C x) : ∃m1 m2 m3 cs,Blk w bw tWk cs/\w.cell? ⟨bw,0,none⟩ = some (.int .i64 R)/\w.cell? ⟨bw,1,none⟩ = some (.int .i64 C)/\w.cell? ⟨bw,2,none⟩ = some m1/\cs = #[.int .i64 R,.int .i64 C,m1,.int .i64 R,.int .i64 R,m2,.int .i64 R,.int .i64 R,m3]:=by
 obtain ⟨AM,AU,AV,bm,bu,bv,h1,h2⟩:=h
 obtain ⟨q0,q1,q2,-⟩:=h1.blk.nine
 exact ⟨AM,AU,AV,_,h1.blk,q0,q1,q2,rfl⟩
end
structure MvI (R C M0 i : Nat) (x0 x : Bst) : Prop where
 ops : ∃l,okOps R l/\x = opsB l x0
 bd : leB (M0 * 4 ^ i) R C R x
section
variable {R C M0 i : Nat} {x0 x : Bst}
theorem MvI.op (h : MvI R C M0 i x0 x) {o : Op} (ho : o.ok R) (hg : o.g<=4) : MvI R C M0 (i + 1) x0 (o.b x):=by
 obtain ⟨l,l1,l2⟩:=h.ops
 refine ⟨opsB_ex l1 l2 (okOps.cons ho okOps.nil) rfl,(leB_b h.bd ho).mono ?_⟩
 rw [Nat.pow_succ,<-Nat.mul_assoc]
 exact Nat.mul_le_mul_left _ hg
theorem MvI.same (h : MvI R C M0 i x0 x) : MvI R C M0 (i + 1) x0 x:=⟨h.ops,h.bd.mono (Nat.mul_le_mul_left _ (le_pow2 oM oM))⟩
theorem MvI.last (h : MvI R C M0 i x0 x) (hi : i<=12) : leB (M0 * 4 ^ 12) R C R x:=h.bd.mono (Nat.mul_le_mul_left _ (le_pow2 oM hi))
end
theorem MatV.keep3 {w : World} {v : Value} {R C : Int} {M : List (List Int)} {b : Nat} {cs : Array Value} (h : MatV w v R C M) (hb : Blk w b 41 cs) (x y z : Value) : MatV (((w.setCell ⟨b,0,none⟩ x).setCell ⟨b,1,none⟩ y).setCell ⟨b,2,none⟩ z) v R C M:=by
 obtain ⟨A,rfl,h⟩:=h
 exact ⟨A,rfl,h.off hb dE dE (fun k hk=>set3_old _ _ k _ _ _ hk) (hb.lext3 dE _ _ _)⟩
theorem KEu.okB {R C M0 c r i : Nat} {x0 x : Bst} {κ : Nat->Nat} (hM0 : 1<=M0) (h : KEu R C R M0 x0 c r κ i x) (hri : r < i) (hi : i < R) (hB : gx (eE R R) M0 < BD) : okB BD R C R x:=
 (h.all hM0 hri).ok (Nat.lt_of_le_of_lt (gx_mono hM0 (Nat.le_trans (eI_le oM oM) (eE_mono R oM))) hB)
theorem KEu.five {R M0 r i : Nat} (hM0 : 1<=M0) (hri : r < i) (hi : i < R) (hB : gx (eE R R) M0 < BD) : fm (gx (eE R r) M0) (gx (eI R r i) M0) < BD:=by
 rw [<-gx_fm (eE_pos _ _) (eI_pos _ _ _),<-eI_succ hri]
 exact Nat.lt_of_le_of_lt (gx_mono hM0 (Nat.le_trans (eI_le oM oM) (eE_mono R oM))) hB
theorem cmpI_neg {z : Int} (h : z < 0) : cmpI z 0 = -1:=by unfold cmpI; rw [if_pos h]
theorem cmpI_pos {z : Int} (h : 0 < z) : cmpI z 0 = 1:=by unfold cmpI; (repeat' split) <;> omega
theorem OkB.smd {R C : Nat} {x : Bst} (h : okB BD R C R x) {a b : Nat} (ha : a < R) (hb : b < C) : Smd (x.s a b):=BD_bsd.smd _ (h.1 a ha b hb)
set_option maxHeartbeats 16000000 in
set_option maxRecDepth 20000 in
theorem r12form_any {M0 : Nat} (hM0 : 1<=M0) (v : Value) (M : List (List Int)) (R C : Nat) (w : World) (h : MatW w v R C M) (hF : Fits R C M) (hR : R<=1000000) (hC : C<=1000000) (hA : leM M0 R C (ent M)) (hB : gx (eE R R) M0 < BD) :
  Calls Tryz.prog 123 #[v] w fun e w'=>∃v c r κ x,e = .returned v/\KO R C R M0 ⟨ent M,idf,idf⟩ c r κ x/\(c = C ∨ r = R)/\HermV w' v R C (genM R C x.s) (genM R R x.t) (genM R R fun a b=>x.i b a)/\Below w.heap.size w w':=by
 have h0:=h
 obtain ⟨A,rfl,h⟩:=h
 obtain ⟨ao,n,cap,rfl,e2,e3,e4,-⟩:=id h
 have hMB : M0 < BD:=Nat.lt_of_le_of_lt (gx_ge hM0 (eE_pos R R)) hB
 have HS0 : HidS (∀r ∈ M,∀z ∈ r,Sm z):=⟨by rw [fits_genM hF]; exact genM_all fun a ha b hb=>BD_sm (Nat.lt_of_le_of_lt (hA a ha b hb) hMB)⟩
 have HK0 : HidS (KO R C R M0 ⟨ent M,idf,idf⟩ 0 0 (fun _=>0) ⟨ent M,idf,idf⟩):=⟨KO.start ⟨hA,idf_leM R M0 hM0,idf_leM R M0 hM0⟩⟩
 have HF:=HidS.mk hF
 have HB:=HidS.mk hB
 have H0:=HidS.mk h0
 have HM0:=HidS.mk hM0
 obtain ⟨x0,hx0⟩ : ∃x0 : Bst,(⟨ent M,idf,idf⟩ : Bst) = x0:=⟨_,rfl⟩
 have HX0:=HidS.mk hx0
 rw [hx0] at HK0 ⊢
 clear h0 hF e2 h hA hB hMB hM0 hx0
 go_enter Tryz.func123,Tryz.ntmps123
 go_upto_region 1 with (fail)
 refine wp_world ?_
 intro W0 hW0
 obtain ⟨hB0,bx,br,hs0⟩:=world2 hW0
 obtain ⟨c1,c2,c3,c4,c5,c6⟩:=bx.three
 clear hW0
 go_wp2_with fail
 refine (r12start_any _ M R C W0 (H0.out.below hB0) HF.out hR hC HS0.out).mono ?_
 rintro e w2 ⟨v,rfl,hkn,hb2⟩
 obtain ⟨bw,AM,AU,AV,bm,bu,bv,rfl,k1,k2,k3⟩:=hkn.ex
 have hkw : KW (fun b=>W0.heap.size<=b) w2 bw R C x0:=by
  rw [<-HX0.out]
  exact ⟨_,_,_,_,_,_,k2.congr (fun _ _ _ _=>rfl) (fun _ _ _ _=>rfl) (fun a _ b _=>idf_comm a b),k3⟩
 have bx:=bx.below hb2
 have br:=br.below hb2
 have hb:=nx hB0 hb2
 have q1:=hB0.size
 have q2:=hb2.size
 have hsb : w.heap.size + 1 < W0.heap.size:=by omega
 clear c1 c2 c3 c4 c5 c6 hkn k2 k3 q1 q2 hs0 hB0 hb2
 go_wp2
 go_loopw [4,5] (fun tv cv wr=>∃(r c : Nat) (κ : Nat->Nat) (x : Bst),tv = .int .i64 r/\cv = .int .i64 c/\c<=C/\r<=R/\Below w.heap.size w wr/\Blk wr w.heap.size 41 #[.int .i64 R,.int .i64 C,.slice ao n cap]/\Blk wr (w.heap.size + 1) tHe #[.int .i64 0,.int .i64 0,.slice none 0 0,.int .i64 0,.int .i64 0,.slice none 0 0,.int .i64 0,.int .i64 0,.slice none 0 0]/\KW (fun b=>W0.heap.size<=b) wr bw R C x/\HidS (KO R C R M0 x0 c r κ x)) (fun _ cv _=>C - (intOf cv).toNat)
 case atStart=>exact ⟨0,0,_,_,rfl,rfl,by omega,by omega,hb,bx,br,hkw,HK0⟩
 case round=>
  clear hkw bx br hb
  obtain ⟨r,c,κ,x,rfl,rfl,hcl,hrl,hb,bx,br,hkw,hko⟩:=hrel
  obtain ⟨c1,c2,c3,c4,c5,c6⟩:=bx.three
  by_cases hgo : c < C/\r < R
  ·obtain ⟨hcC,hrR⟩:=hgo
   have hkr0:=HidS.mk (hko.out.enter hcC)
   go_wp2
   clear c1 c2 c3 c4 c5 c6
   go_loopw [6] (fun iv wr=>∃(i : Nat) (x : Bst),iv = .int .i64 i/\r < i/\i<=R/\Below w.heap.size w wr/\Blk wr w.heap.size 41 #[.int .i64 R,.int .i64 C,.slice ao n cap]/\Blk wr (w.heap.size + 1) tHe #[.int .i64 0,.int .i64 0,.slice none 0 0,.int .i64 0,.int .i64 0,.slice none 0 0,.int .i64 0,.int .i64 0,.slice none 0 0]/\KW (fun b=>W0.heap.size<=b) wr bw R C x/\HidS (KR R C R M0 x0 c r κ i x)) (fun iv _=>R - (intOf iv).toNat)
   case atStart=>exact ⟨r + 1,x,by simp,by omega,by omega,hb,bx,br,hkw,hkr0⟩
   case round=>
    clear hkw bx br hb hkr0 hko
    obtain ⟨i,x,rfl,hri,hiR,hb,bx,br,hkw,hkr⟩:=hrel
    obtain ⟨c1,c2,c3,c4,c5,c6⟩:=bx.three
    by_cases hi : i < R
    ·have hke0:=HidS.mk hkr.out.enter
     obtain ⟨JF,hJF⟩ : ∃JF : Nat->World->Prop,∀m wr,JF m wr ↔ ∃x : Bst,(x.s i c).natAbs = m/\Below w.heap.size w wr/\Blk wr w.heap.size 41 #[.int .i64 R,.int .i64 C,.slice ao n cap]/\Blk wr (w.heap.size + 1) tHe #[.int .i64 0,.int .i64 0,.slice none 0 0,.int .i64 0,.int .i64 0,.slice none 0 0,.int .i64 0,.int .i64 0,.slice none 0 0]/\KW (fun b=>W0.heap.size<=b) wr bw R C x/\HidS (KEu R C R M0 x0 c r κ i x):=⟨_,fun _ _=>Iff.rfl⟩
     have HJF:=HidS.mk hJF
     have hj0 : JF (x.s i c).natAbs _:=(hJF _ _).2 ⟨x,rfl,hb,bx,br,hkw,hke0⟩
     clear hJF
     go_wp2
     clear c1 c2 c3 c4 c5 c6
     go_loopw [] (fun wr=>∃m,JF m wr) (fun wr=>leastOf (fun m=>JF m wr))
     case atStart=>exact ⟨_,hj0⟩
     case round=>
      clear hkw bx br hb hke0 hkr hj0
      obtain ⟨m,hJ⟩:=hrel
      replace hJ:=(leastOf_spec (P:=fun m=>JF m wr) hJ).1
      generalize leastOf (fun m=>JF m wr) = m0 at hJ ⊢
      obtain ⟨x,hm0,hb,bx,br,hkw,hke⟩:=(HJF.out _ _).1 hJ
      have HM:=HidS.mk hm0
      clear hJ hm0
      obtain ⟨AM,AU,AV,bm,bu,bv,hk9,hz9⟩:=id hkw
      obtain ⟨gm,cm,rfl⟩:=hk9.m.base oM
      obtain ⟨q0,q1,q2,q3,q4,q5,q6,q7,q8⟩:=hk9.blk.nine
      have lbw:=hk9.blk.lt
      have lgm:=hk9.zlt (b:=gm) (.inl (.inr rfl))
      obtain ⟨bi,hBbi⟩:=hk9.m.bex hi
      have o1:=hk9.m.rowc hi hBbi
      have lbi:=hk9.zlt (b:=bi) (.inl (.inl (List.mem_of_getElem? hBbi)))
      obtain ⟨xis,xia,xil,xik,p1,p2,-,-,hx⟩:=hk9.m.elem hi hBbi hcC
      have HOB:=HidS.mk (hke.out.okB HM0.out hri hi HB.out)
      go_wp2_with fail
      refine (r1sign_any _ (x.s i c) wr hx).mono ?_
      rintro e w3 ⟨rfl,hb3⟩
      by_cases hY : x.s i c = 0
      ·have hkr':=HidS.mk (hke.out.exit HM0.out hri hY)
       rw [cmpI_zero hY]
       clear q0 q1 q2 q3 q4 q5 q6 q7 q8 o1 p1 p2
       have hb:=nx hb hb3
       have bx:=bx.below hb3
       have br:=br.below hb3
       have hkw:=hkw.below hb3
       go_wp2
       go_roundw
       case rel=>exact ⟨i + 1,x,by simp,by omega,by omega,hb,bx,br,hkw,hkr'⟩
       case measure=>simp [intOf]; omega
      ·have hcn:=cmpI_ne hY
       obtain ⟨kk,hkk⟩ : ∃k,cmpI (x.s i c) 0 = k:=⟨_,rfl⟩
       rw [hkk] at hcn ⊢
       have hkn : (kk != 0) = true:=by simpa using hcn
       have HYN:=HidS.mk hY
       clear hkk hY q0 q1 q2 q3 q4 q5 q6 q7 q8 o1 p1 p2 hk9 hz9 hx lbi lgm lbw
       have hb:=nx hb hb3
       have bx:=bx.below hb3
       have br:=br.below hb3
       have hkw:=hkw.below hb3
       obtain ⟨AM,AU,AV,bm,bu,bv,hk9,hz9⟩:=id hkw
       obtain ⟨gm,cm,rfl⟩:=hk9.m.base oM
       obtain ⟨q0,q1,q2,q3,q4,q5,q6,q7,q8⟩:=hk9.blk.nine
       have lbw:=hk9.blk.lt
       have lgm:=hk9.zlt (b:=gm) (.inl (.inr rfl))
       obtain ⟨bt,hBbt⟩:=hk9.m.bex hrR
       have o1:=hk9.m.rowc hrR hBbt
       have lbt:=hk9.zlt (b:=bt) (.inl (.inl (List.mem_of_getElem? hBbt)))
       obtain ⟨xts,xta,xtl,xtk,p1,p2,-,-,hx⟩:=hk9.m.elem hrR hBbt hcC
       go_wp2_with fail
       refine (r1sign_any _ (x.s r c) w3 hx).mono ?_
       rintro e w4 ⟨rfl,hb4⟩
       clear q0 q1 q2 q3 q4 q5 q6 q7 q8 o1 p1 p2 hk9 hz9 hx lbt lgm lbw hkn hcn
       have hb:=nx hb hb4
       have bx:=bx.below hb4
       have br:=br.below hb4
       have hkw:=hkw.below hb4
       by_cases hX : x.s r c = 0
       ·rw [cmpI_zero hX]
        obtain ⟨n1,n2,n3⟩:=hke.out.1.swap0 hri hi hX HYN.out hke.out.2
        have hke' : HidS (KEu R C R M0 x0 c r κ i (x.swap r i)):=⟨⟨n1,n2⟩⟩
        have hms : ((x.swap r i).s i c).natAbs < m0:=by
         have h1:=HYN.out
         have h2:=HM.out
         rw [n3]
         omega
        have HMS:=HidS.mk hms
        clear n1 n2 n3 hms
        go_wp2_with fail
        refine (kw_swap hkw hrR hi hR hC).mono ?_
        rintro e wa ⟨⟨uu,rfl⟩,hon,hkw'⟩
        have bx:=hon.blk bx oM
        have br:=hon.blk br oM
        have hbN:=below_only hb hon oM hb.size
        have hjn : JF ((x.swap r i).s i c).natAbs wa:=(HJF.out _ _).2 ⟨_,rfl,hbN,bx,br,hkw',hke'⟩
        go_wp2
        go_roundw
        case rel=>exact ⟨_,hjn⟩
        case measure=>exact leastOf_lt hjn HMS.out
       ·have hcn:=cmpI_ne hX
        obtain ⟨kk2,hkk2⟩ : ∃k,cmpI (x.s r c) 0 = k:=⟨_,rfl⟩
        rw [hkk2] at hcn ⊢
        have hkn : (kk2 != 0) = true:=by simpa using hcn
        obtain ⟨n1,n2,n3,n4⟩:=hke.out.1.step hri hi hcC (Nat.le_trans HM0.out (gx_ge HM0.out (eE_pos _ _))) (Nat.le_trans HM0.out (gx_ge HM0.out (eI_pos _ _ _))) hX HYN.out hke.out.2 (KEu.five HM0.out hri hi HB.out)
        have hke' : HidS (KEu R C R M0 x0 c r κ i ((x.add r i (-(x.s r c / x.s i c))).swap r i)):=⟨⟨n2,n3⟩⟩
        have HMS : HidS ((((x.add r i (-(x.s r c / x.s i c))).swap r i).s i c).natAbs < m0):=⟨by rw [<-HM.out]; exact n4⟩
        have HOK:=HidS.mk n1
        have SX:=HidS.mk (OkB.smd HOB.out hrR hcC)
        have SY:=HidS.mk (OkB.smd HOB.out hi hcC)
        have SQ : HidS (Sm (x.s r c / x.s i c)):=⟨(SX.out.mono (div_abs _ _)).sm⟩
        clear n1 n2 n3 n4 hkk2 hX
        obtain ⟨AM,AU,AV,bm,bu,bv,hk9,hz9⟩:=id hkw
        obtain ⟨gm,cm,rfl⟩:=hk9.m.base oM
        obtain ⟨q0,q1,q2,q3,q4,q5,q6,q7,q8⟩:=hk9.blk.nine
        have lbw:=hk9.blk.lt
        have lgm:=hk9.zlt (b:=gm) (.inl (.inr rfl))
        obtain ⟨bt,hBbt⟩:=hk9.m.bex hrR
        have o1:=hk9.m.rowc hrR hBbt
        have lbt:=hk9.zlt (b:=bt) (.inl (.inl (List.mem_of_getElem? hBbt)))
        obtain ⟨xts,xta,xtl,xtk,p1,p2,-,-,hx⟩:=hk9.m.elem hrR hBbt hcC
        obtain ⟨bi,hBbi⟩:=hk9.m.bex hi
        have o2:=hk9.m.rowc hi hBbi
        have lbi:=hk9.zlt (b:=bi) (.inl (.inl (List.mem_of_getElem? hBbi)))
        obtain ⟨xis,xia,xil,xik,p3,p4,-,-,hy⟩:=hk9.m.elem hi hBbi hcC
        have hld : Lasts (fun w v=>∃v1 v2,v = .tuple #[v1,v2,.int .i64 0]/\IntV w v1 (x.s r c / x.s i c)/\IntV w v2 (x.s r c % x.s i c)):=fun w w' v hx h=>by
         obtain ⟨v1,v2,e,h1,h2⟩:=h
         exact ⟨v1,v2,e,h1.ext hx,h2.ext hx⟩
        go_upto_region 11 with (fail)
        refine wp_ser [pcD 22 [] (fun w v=>∃v1 v2,v = .tuple #[v1,v2,.int .i64 0]/\IntV w v1 (x.s r c / x.s i c)/\IntV w v2 (x.s r c % x.s i c)),pcD 23 [22] (fun w v=>∃v1 v2,v = .tuple #[v1,v2,.int .i64 0]/\IntV w v1 (x.s r c / x.s i c)/\IntV w v2 (x.s r c % x.s i c)),pcD 24 [23] (fun w v=>IntV w v (x.s r c / x.s i c)),pcD 25 [23] (fun w v=>IntV w v (x.s r c % x.s i c)),pcD 26 [23] (fun _ v=>v = .int .i64 0),pbA 27 66 2,pbA 28 66 2,pbS 29 27 66 2,pbS 30 28 66 2] ?_
        refine sRd ?_
        refine sRc (fun wS hI Gk hG=>?_) (fun va22 _=>?_)
        ·go_simp
         refine (r1divmod_any _ _ _ _ _ (hx.ext hI.lext) (hy.ext hI.lext) SX.out SY.out HYN.out).mono ?_
         rintro e wa ⟨u1,u2,rfl,hu1,hu2,hba⟩
         exact ⟨_,rfl,hG _ _ ⟨u1,u2,rfl,hu1,hu2⟩,hba⟩
        refine sRc (fun wS hI ha22 Gk hG=>?_) (fun va23 _=>?_)
        ·go_simp
         exact ⟨hG _ _ ha22,Below.refl _ _⟩
        refine sRc (fun wS hI ha23 Gk hG=>?_) (fun va24 hv=>?_)
        ·obtain ⟨u1,u2,rfl,e1,e2⟩:=ha23
         go_simp
         exact ⟨hG _ _ e1,Below.refl _ _⟩
        obtain ⟨xa27,ya27,rfl,qa27⟩:=boxI hv
        clear hv
        refine sRc (fun wS hI ha23 Gk hG=>?_) (fun va25 hv=>?_)
        ·obtain ⟨u1,u2,rfl,e1,e2⟩:=ha23
         go_simp
         exact ⟨hG _ _ e2,Below.refl _ _⟩
        obtain ⟨xa28,ya28,rfl,qa28⟩:=boxI hv
        clear hv
        refine sRc (fun wS hI ha23 Gk hG=>?_) (fun _ hv=>?_)
        ·obtain ⟨u1,u2,rfl,e1,e2⟩:=ha23
         go_simp
         exact ⟨hG _ _ rfl,Below.refl _ _⟩
        obtain ⟨_,-,rfl⟩:=hv
        refine sRa (cs:=#[.bool false,.slice none 0 0]) fun ca27 ga27=>?_
        refine sRa (cs:=#[.bool false,.slice none 0 0]) fun ca28 ga28=>?_
        refine sRs ca27 (.agg #[xa27,ya27]) ?_ qa27
        refine sRs ca28 (.agg #[xa28,ya28]) ?_ qa28
        refine sRd ?_
        refine sRb ?_
        simp only [FA,FC,FN,ptr,List.nil_append,List.cons_append,Act.put,List.setIfInBounds_toArray,List.set_cons_zero,List.set_cons_succ]
        intro w5 hbw5 ha22 ha23 ha24 ha25 _ ka27 ka28 na27 na28
        replace ka27 : Blk w5 ca27 66 #[xa27,ya27]:=ka27 _ rfl
        have ia27:=ha24
        replace ka28 : Blk w5 ca28 66 #[xa28,ya28]:=ka28 _ rfl
        have ia28:=ha25
        have na27_28 : ca27 ≠ ca28:=na27 (28,ca28) sI
        clear na27 na28
        have hlw5:=lx hbw5
        have holdw5:=hbw5.block
        clear q0 q1 q2 q3 q4 q5 q6 q7 q8 o1 o2 p1 p2 p3 p4 hk9 hz9 hx hy lbt lbi lgm lbw hkn hcn
        have hb:=nx hb hbw5
        have bx:=bx.below hbw5
        have br:=br.below hbw5
        have hkw:=hkw.below hbw5
        obtain ⟨m1,m2,m3,m4⟩:=ka27.two
        obtain ⟨pn0,pa0,pl0,pc0,px0,hpe,hpx0⟩:=id ia27
        injection hpe with hpe
        simp only [Array.mk.injEq,List.cons.injEq,and_true] at hpe
        obtain ⟨rfl,rfl⟩:=hpe
        have HPX0:=Lib.hid hpx0
        clear hpx0
        go_wp2_with fail
        refine (r1neg_any _ _ w5 ia27.weak SQ.out).mono ?_
        rintro e w6 ⟨kv,rfl,hkv,hb6⟩
        obtain ⟨pn,pa,pl,pc,px,rfl,hpx⟩:=id hkv
        have HPX:=Lib.hid hpx
        clear hpx m1 m2 m3 m4
        have hb:=nx hb hb6
        have bx:=bx.below hb6
        have br:=br.below hb6
        have hkw:=hkw.below hb6
        go_wp2_with fail
        refine (kw_add hkw hrR hi oM hkv HOB.out HOK.out hR hC).mono ?_
        rintro e w7 ⟨⟨uu,rfl⟩,hon,hkw⟩
        have bx:=hon.blk bx oM
        have br:=hon.blk br oM
        have hb:=below_only hb hon oM hb.size
        go_wp2_with fail
        refine (kw_swap hkw hrR hi hR hC).mono ?_
        rintro e wa ⟨⟨uu2,rfl⟩,hon2,hkw'⟩
        have bx:=hon2.blk bx oM
        have br:=hon2.blk br oM
        have hbN:=below_only hb hon2 oM hb.size
        have hjn : JF (((x.add r i (-(x.s r c / x.s i c))).swap r i).s i c).natAbs wa:=(HJF.out _ _).2 ⟨_,rfl,hbN,bx,br,hkw',hke'⟩
        go_wp2
        go_roundw
        case rel=>exact ⟨_,hjn⟩
        case measure=>exact leastOf_lt hjn HMS.out
    ·obtain rfl : R = i:=by omega
     obtain ⟨AM,AU,AV,bm,bu,bv,hk9,hz9⟩:=id hkw
     obtain ⟨gm,cm,rfl⟩:=hk9.m.base oM
     obtain ⟨q0,q1,q2,q3,q4,q5,q6,q7,q8⟩:=hk9.blk.nine
     have lbw:=hk9.blk.lt
     have lgm:=hk9.zlt (b:=gm) (.inl (.inr rfl))
     obtain ⟨bt,hBbt⟩:=hk9.m.bex hrR
     have o1:=hk9.m.rowc hrR hBbt
     have lbt:=hk9.zlt (b:=bt) (.inl (.inl (List.mem_of_getElem? hBbt)))
     obtain ⟨xts,xta,xtl,xtk,p1,p2,-,-,hx⟩:=hk9.m.elem hrR hBbt hcC
     go_wp2_with fail
     refine (r1sign_any _ (x.s r c) wr hx).mono ?_
     rintro e w3 ⟨rfl,hb3⟩
     clear q0 q1 q2 q3 q4 q5 q6 q7 q8 o1 p1 p2 hk9 hz9 hx lbt lgm lbw c1 c2 c3 c4 c5 c6
     have hb:=nx hb hb3
     have bx:=bx.below hb3
     have br:=br.below hb3
     have hkw:=hkw.below hb3
     obtain ⟨c1,c2,c3,c4,c5,c6⟩:=bx.three
     by_cases hX : x.s r c = 0
     ·have hko':=HidS.mk (hkr.out.none hX)
      rw [cmpI_zero hX]
      go_wp2
      go_roundw
      case rel=>exact ⟨r,c + 1,κ,x,rfl,by simp,by omega,by omega,hb,bx,br,hkw,hko'⟩
      case measure=>simp [intOf]; omega
     ·skip
      obtain ⟨AM,AU,AV,bm,bu,bv,hk9,hz9⟩:=id hkw
      obtain ⟨gm,cm,rfl⟩:=hk9.m.base oM
      obtain ⟨q0,q1,q2,q3,q4,q5,q6,q7,q8⟩:=hk9.blk.nine
      have lbw:=hk9.blk.lt
      have lgm:=hk9.zlt (b:=gm) (.inl (.inr rfl))
      obtain ⟨bt,hBbt⟩:=hk9.m.bex hrR
      have o1:=hk9.m.rowc hrR hBbt
      have lbt:=hk9.zlt (b:=bt) (.inl (.inl (List.mem_of_getElem? hBbt)))
      obtain ⟨xts,xta,xtl,xtk,p1,p2,-,-,hx⟩:=hk9.m.elem hrR hBbt hcC
      by_cases hN : x.s r c < 0
      case' pos=>
       have hkd0:=HidS.mk (hkr.out.neg hrR hN)
       have HOB : HidS (okB BD R C R x):=⟨hkr.out.2.ok (Nat.lt_of_le_of_lt (gx_mono HM0.out (Nat.le_trans (eI_le hrR (Nat.le_refl _)) (eE_mono R oM))) HB.out)⟩
       rw [cmpI_neg hN]
       go_wp2_with fail
       refine (r1sign_any _ (x.s r c) w3 hx).mono ?_
       rintro e w4 ⟨rfl,hb4⟩
       rw [cmpI_neg hN]
       clear q0 q1 q2 q3 q4 q5 q6 q7 q8 o1 p1 p2 hk9 hz9 hx lbt lgm lbw c1 c2 c3 c4 c5 c6
       have hb:=nx hb hb4
       have bx:=bx.below hb4
       have br:=br.below hb4
       have hkw:=hkw.below hb4
       go_wp2_with fail
       refine (kw_neg hkw hrR HOB.out hR hC).mono ?_
       rintro e w5 ⟨⟨uu,rfl⟩,hon,hkw⟩
       have bx:=hon.blk bx oM
       have br:=hon.blk br oM
       have hb:=below_only hb hon oM hb.size
       obtain ⟨c1,c2,c3,c4,c5,c6⟩:=bx.three
       clear hX hN
       go_wp2
      case' neg=>
       have hP : 0 < x.s r c:=by omega
       have hkd0:=HidS.mk (hkr.out.pos hP)
       rw [cmpI_pos hP]
       go_wp2_with fail
       refine (r1sign_any _ (x.s r c) w3 hx).mono ?_
       rintro e w4 ⟨rfl,hb4⟩
       rw [cmpI_pos hP]
       clear q0 q1 q2 q3 q4 q5 q6 q7 q8 o1 p1 p2 hk9 hz9 hx lbt lgm lbw c1 c2 c3 c4 c5 c6
       have hb:=nx hb hb4
       have bx:=bx.below hb4
       have br:=br.below hb4
       have hkw:=hkw.below hb4
       obtain ⟨c1,c2,c3,c4,c5,c6⟩:=bx.three
       clear hX hN hP
       go_wp2
      all_goals
       clear c1 c2 c3 c4 c5 c6
       go_loopw [10] (fun jv wr=>∃(j : Nat) (x : Bst),jv = .int .i64 j/\j<=r/\Below w.heap.size w wr/\Blk wr w.heap.size 41 #[.int .i64 R,.int .i64 C,.slice ao n cap]/\Blk wr (w.heap.size + 1) tHe #[.int .i64 0,.int .i64 0,.slice none 0 0,.int .i64 0,.int .i64 0,.slice none 0 0,.int .i64 0,.int .i64 0,.slice none 0 0]/\KW (fun b=>W0.heap.size<=b) wr bw R C x/\HidS (KD R C R M0 x0 c r κ j x)) (fun jv _=>r - (intOf jv).toNat)
       case atStart=>exact ⟨0,_,rfl,by omega,hb,bx,br,hkw,hkd0⟩
       case round=>
        clear hkw bx br hb
        obtain ⟨j,x,rfl,hj,hb,bx,br,hkw,hkd⟩:=hrel
        by_cases hlt : j < r
        ·have hBr : gx (eE R (r + 1)) M0 < BD:=Nat.lt_of_le_of_lt (gx_mono HM0.out (eE_mono R oM)) HB.out
         obtain ⟨n1,n2⟩:=hkd.out.step HM0.out hlt hrR hcC hBr
         have HKN:=HidS.mk n2
         have HOK:=HidS.mk n1
         have HOB : HidS (okB BD R C R x):=⟨hkd.out.bd.ok (Nat.lt_of_le_of_lt (gx_mono HM0.out (eI_last R r j hrR oM)) hBr)⟩
         have hjR : j < R:=by omega
         have SX:=HidS.mk (OkB.smd HOB.out hjR hcC)
         have SY:=HidS.mk (OkB.smd HOB.out hrR hcC)
         have SQ : HidS (Sm (x.s j c / x.s r c)):=⟨(SX.out.mono (div_abs _ _)).sm⟩
         have HP : HidS (x.s r c ≠ 0):=⟨by have:=hkd.out.pos; omega⟩
         clear n1 n2 hBr
         obtain ⟨AM,AU,AV,bm,bu,bv,hk9,hz9⟩:=id hkw
         obtain ⟨gm,cm,rfl⟩:=hk9.m.base oM
         obtain ⟨q0,q1,q2,q3,q4,q5,q6,q7,q8⟩:=hk9.blk.nine
         have lbw:=hk9.blk.lt
         have lgm:=hk9.zlt (b:=gm) (.inl (.inr rfl))
         obtain ⟨bi,hBbi⟩:=hk9.m.bex hjR
         have o1:=hk9.m.rowc hjR hBbi
         have lbi:=hk9.zlt (b:=bi) (.inl (.inl (List.mem_of_getElem? hBbi)))
         obtain ⟨xis,xia,xil,xik,p1,p2,-,-,hx⟩:=hk9.m.elem hjR hBbi hcC
         obtain ⟨bt,hBbt⟩:=hk9.m.bex hrR
         have o2:=hk9.m.rowc hrR hBbt
         have lbt:=hk9.zlt (b:=bt) (.inl (.inl (List.mem_of_getElem? hBbt)))
         obtain ⟨xts,xta,xtl,xtk,p3,p4,-,-,hy⟩:=hk9.m.elem hrR hBbt hcC
         go_upto_region 20 with (fail)
         refine wp_serH 27 [pcI 25 (x.s j c / x.s r c),pcD 26 [25] (fun w v=>IntV w v (-(x.s j c / x.s r c)))] ?_
         refine sRd ?_
         refine sRc (fun wS hI Gk hG=>by go_simp; exact ck hG (r12floor_any _ _ (x.s j c) (x.s r c) _ (hx.ext hI.lext) (hy.ext hI.lext) SX.out SY.out HP.out)) (fun va25 _=>?_)
         refine sRc (fun wS hI ha25 Gk hG=>by go_simp; exact ck hG (r1neg_any _ (x.s j c / x.s r c) _ ha25.weak SQ.out)) (fun va26 _=>?_)
         refine sRe ?_
         intro w5 hbw5 ha25 ha26
         have hlw5:=lx hbw5
         have holdw5:=hbw5.block
         clear q0 q1 q2 q3 q4 q5 q6 q7 q8 o1 o2 p1 p2 p3 p4 hk9 hz9 hx hy lbt lbi lgm lbw
         have hb:=nx hb hbw5
         have bx:=bx.below hbw5
         have br:=br.below hbw5
         have hkw:=hkw.below hbw5
         go_wp2_with fail
         refine (kw_add hkw hjR hrR oM ha26 HOB.out HOK.out hR hC).mono ?_
         rintro e wa ⟨⟨uu,rfl⟩,hon,hkw'⟩
         have bx:=hon.blk bx oM
         have br:=hon.blk br oM
         have hbN:=below_only hb hon oM hb.size
         go_wp2
         go_roundw
         case rel=>exact ⟨j + 1,_,by simp,by omega,hbN,bx,br,hkw',HKN⟩
         case measure=>simp [intOf]; omega
        ·obtain rfl : r = j:=by omega
         have hko':=HidS.mk (hkd.out.exit HM0.out hrR hcC)
         go_wp2
         go_roundw
         case rel=>exact ⟨r + 1,c + 1,_,x,by simp,by simp,by omega,by omega,hb,bx,br,hkw,hko'⟩
         case measure=>simp [intOf]; omega
  ·have HCR : HidS (c = C ∨ r = R):=⟨by
    by_cases h1 : c < C
    ·exact .inr (by have : ¬ r < R:=fun h2=>hgo ⟨h1,h2⟩; omega)
    ·exact .inl oM⟩
   have HGO : HidS (∀K : Prop,(c < C->¬ r < R->K)->(¬ c < C->K)->K):=⟨fun K h1 h2=>by
    by_cases hs : c < C
    ·exact h1 hs (fun hl=>hgo ⟨hs,hl⟩)
    ·exact h2 hs⟩
   obtain ⟨AM,AU,AV,bm,bu,bv,hk9,hz9⟩:=hkw
   obtain ⟨mo,mc,rfl⟩:=hk9.m.shape
   obtain ⟨uo,uc,rfl⟩:=hk9.u.shape
   obtain ⟨vo,vc,rfl⟩:=hk9.v.shape
   obtain ⟨q0,q1,q2,q3,q4,q5,q6,q7,q8⟩:=hk9.blk.nine
   clear hgo
   refine HGO.out _ (fun hl hlm=>?_) (fun hl=>?_)
   all_goals
    obtain ⟨⟨r0,r1,r2,r3,r4,r5,r6,r7,r8⟩,⟨f0,f1,f2,f3,f4,f5,f6,f7,f8⟩⟩:=br.all9
    go_upto_region 22 with (fail)
    clear c1 c2 c3 c4 c5 c6
    refine wp_serH 13 [] ?_
    refine sRd ?_
    refine sRf ?_
    intro w5 hbw5
    have br:=br.below hbw5
    have hb:=nx hb hbw5
    have hk9:=hk9.below hbw5
    clear q0 q1 q2 q3 q4 q5 q6 q7 q8 r0 r1 r2 r3 r4 r5 r6 r7 r8 f0 f1 f2 f3 f4 f5 f6 f7 f8
    obtain ⟨⟨r0,r1,r2,r3,r4,r5,r6,r7,r8⟩,⟨f0,f1,f2,f3,f4,f5,f6,f7,f8⟩⟩:=br.all9
    go_wp2
    have hxr:=br.lext9 dE (.int .i64 R) (.int .i64 C) (.slice mo R mc) (.int .i64 R) (.int .i64 R) (.slice uo R uc) (.int .i64 R) (.int .i64 R) (.slice vo R vc)
    have offr : ∀{v : Value} {M : List (List Int)},RowsV w5 v M->RowsV _ v M:=fun h=>h.off br dE dE (fun b hb=>set9_old w5 (w.heap.size + 1) b _ _ _ _ _ _ _ _ _ hb) hxr
    refine bodyPost_ret (results_cell_row rfl _ _ (w.heap.size + 1) _ _ _ _ rfl (br.put9 _ _ _ _ _ _ _ _ _) Tryz.underlying179 rfl (by rw [Tryz.sizeHe]; rfl)) rfl ⟨_,rfl,c,r,κ,x,hko.out,HCR.out,⟨_,_,_,rfl,offr (RowsO.rows hk9.m),offr (RowsO.rows hk9.u),offr (RowsO.rows hk9.v)⟩,below9 hb oM _ _ _ _ _ _ _ _ _⟩
set_option maxHeartbeats 2000000 in
set_option maxRecDepth 20000 in
theorem r12rank_any (v : Value) (R C r : Nat) (κ : Nat->Nat) (M : List (List Int)) (w : World) (h : MatV w v R C M) (hF : Fits R C M) (hH : Hnf C R r κ (ent M)) :
  Calls Tryz.prog 124 #[v] w fun e w'=>e = .returned (.int .i64 r)/\Below w.heap.size w w':=by
 obtain ⟨A,rfl,h⟩:=h
 obtain ⟨ao,n,cap,rfl,e2,e3,e4,-⟩:=id h
 obtain rfl : R = n:=by rw [<-e2,hF.1]
 have HX:=Lib.hid e2
 have HF:=HidS.mk hF
 have hle:=hH.le
 have HLO : HidS (∀k,k < r->0<=lead C (ent M) k):=⟨fun k hk=>by rw [hH.ech.lead hk]; omega⟩
 have HHI : HidS (∀k,r<=k->k < R->lead C (ent M) k < 0):=⟨fun k h1 h2=>by rw [lead_neg (hH.zero k h1 h2)]; decide⟩
 clear e2 hF hH
 go_enter Tryz.func124,Tryz.ntmps124
 go_upto_region 1 with (fail)
 refine wp_world ?_
 intro W0 hW0
 obtain ⟨hB0,bx,hs0⟩:=world1 hW0
 clear hW0
 go_wp2
 go_loopw [3,4] (fun nv iv wr=>∃(i m : Nat),i<=R/\nv = .int .i64 m/\iv = .int .i64 i/\Below w.heap.size w wr/\Blk wr w.heap.size 41 #[.int .i64 R,.int .i64 C,.slice ao R cap]/\HidS (m = min i r)) (fun _ iv _=>R - (intOf iv).toNat)
 case atStart=>exact ⟨0,0,by omega,rfl,rfl,hB0,bx,⟨by omega⟩⟩
 case round=>
  clear bx hB0
  obtain ⟨i,m,hi,rfl,rfl,hb,bx,hm⟩:=hrel
  obtain ⟨c1,c2,c3,c4,c5,c6⟩:=bx.three
  by_cases hlt : i < R
  ·obtain ⟨b,ra,rn,rc,zs,rfl,hbl,hz,p1,hrv⟩:=(h.below hb).row (k:=i) (by rw [HX.out]; exact hlt)
   obtain rfl:=HF.out.row_eq hz
   have hmR : m < R:=by have:=hm.out; omega
   go_wp2_with fail
   refine (pivot_any _ (genV C (ent M i)) wr hrv).mono ?_
   rintro e w7 ⟨rfl,hb7⟩
   have hb8:=nx hb hb7
   have bx:=bx.below hb7
   clear c1 c2 c3 c4 c5 c6 p1 hz hrv
   obtain ⟨L,hL⟩ : ∃L,leadGo 0 (genV C (ent M i)) = L:=⟨_,rfl⟩
   rw [hL]
   have HL:=Lib.hid (show lead C (ent M) i = L from hL)
   clear hL
   by_cases hir : i < r
   ·have h0 : (L ≥ 0) = True:=eq_true (by rw [<-HL.out]; exact HLO.out i hir)
    have h1 : 0<=L:=by rw [<-HL.out]; exact HLO.out i hir
    have hm' : HidS (m + 1 = min (i + 1) r):=⟨by have:=hm.out; omega⟩
    clear hir
    go_wp2
    go_roundw
    case rel=>exact ⟨i + 1,m + 1,by omega,by simp,by simp,hb8,bx,hm'⟩
    case measure=>simp [intOf]; omega
   ·have h1 : ¬ 0<=L:=by rw [<-HL.out]; have:=HHI.out i oM hlt; omega
    have hm' : HidS (m = min (i + 1) r):=⟨by have:=hm.out; omega⟩
    clear hir
    go_wp2
    go_roundw
    case rel=>exact ⟨i + 1,m,by omega,rfl,by simp,hb8,bx,hm'⟩
    case measure=>simp [intOf]; omega
  ·obtain rfl : m = r:=by have:=hm.out; omega
   go_wp2
   go_ret
   exact ⟨rfl,hb⟩
theorem r12rankT (v : Value) (R C r : Nat) (κ : Nat->Nat) (M : List (List Int)) (w : World) (h : MatV w v R C M) (hF : Fits R C M) (hH : Hnf C R r κ (ent M)) :
  Calls Tryz.prog 124 #[v] w fun e w'=>∃v,e = .returned v/\v = .int .i64 r/\Below w.heap.size w w':=
 (r12rank_any v R C r κ M w h hF hH).mono fun _ _ ⟨h1,h2⟩=>⟨_,h1,rfl,h2⟩
set_option maxHeartbeats 2000000 in
set_option maxRecDepth 20000 in
theorem r12top_any (v : Value) (R C m : Nat) (M : List (List Int)) (w : World) (h : MatV w v R C M) (hF : Fits R C M) (hm : m<=R) :
  Calls Tryz.prog 145 #[v,.int .i64 m] w fun e w'=>∃v',e = .returned v'/\MatV w' v' m C (M.take m)/\Below w.heap.size w w':=by
 obtain ⟨A,rfl,h⟩:=h
 obtain ⟨ao,n,cap,rfl,e2,e3,e4,-⟩:=id h
 obtain rfl : R = n:=by rw [<-e2,hF.1]
 have hmc : m<=cap:=by omega
 clear hF e2
 go_enter Tryz.func145,Tryz.ntmps145
 go_upto_region 1 with (fail)
 refine wp_world ?_
 intro W0 hW0
 obtain ⟨hB0,bx,br,hs0⟩:=world2 hW0
 obtain ⟨c1,c2,c3,c4,c5,c6⟩:=bx.three
 have lbx:=bx.lt
 clear hW0
 refine wp_serH 8 [] ?_
 refine sRd ?_
 refine sRf ?_
 intro w2 hbw2
 have br:=br.below hbw2
 have hB2:=nx hB0 hbw2
 have hr2:=(h.take hm).below hB2
 obtain ⟨r1,r2,r3,r4,r5,r6⟩:=br.three
 clear c1 c2 c3 c4 c5 c6
 go_wp2
 refine bodyPost_mat (r:=w.heap.size + 1) rfl rfl rfl (br.put3 _ _ _) ⟨_,rfl,MatV.keep3 ⟨_,rfl,hr2⟩ br _ _ _,bset (bset (bset hB2 oM 0 _) oM 1 _) oM 2 _⟩
theorem take_genM {R C m : Nat} (h : m<=R) (F : Nat->Nat->Int) : (genM R C F).take m = genM m C F:=by
 unfold genM
 rw [<-List.map_take,List.take_range,Nat.min_eq_left h]
theorem r12form_gr {M0 : Nat} (hM1 : 1<=M0) (v : Value) (M : List (List Int)) (R C : Nat) (w : World) (h : MatW w v R C M) (hF : Fits R C M) (hR : R<=1000000) (hC : C<=1000000) (hA : leM M0 R C (ent M)) (hB : gx (eE R R) M0 < BD) :
  Calls Tryz.prog 123 #[v] w fun e w'=>∃v r c H U V,e = .returned v/\HForm R C r c (ent M) H U V/\leM (gx (eE R r) M0) R R U/\leM (gx (eE R R) M0) R R V/\HermV w' v R C (genM R C H) (genM R R U) (genM R R V)/\Below w.heap.size w w':=by
 refine (r12form_any hM1 v M R C w h hF hR hC hA hB).mono ?_
 rintro ee w' ⟨v,c,r,κ,x,rfl,hko,hcr,hv,hb⟩
 have hle:=hko.2.mono (gx_mono hM1 (eE_mono R hko.1.rn))
 exact ⟨v,r,κ,_,_,_,rfl,hko.form hcr,hko.2.2.1,fun a ha b hb=>hle.2.2 b hb a ha,hv,hb⟩
theorem r12form_gx {M0 : Nat} (hM1 : 1<=M0) (v : Value) (M : List (List Int)) (R C : Nat) (w : World) (h : MatW w v R C M) (hF : Fits R C M) (hR : R<=1000000) (hC : C<=1000000) (hA : leM M0 R C (ent M)) (hB : gx (eE R R) M0 < BD) :
  Calls Tryz.prog 123 #[v] w fun e w'=>∃v r c H U V,e = .returned v/\HForm R C r c (ent M) H U V/\leM (gx (eE R R) M0) R R U/\leM (gx (eE R R) M0) R R V/\HermV w' v R C (genM R C H) (genM R R U) (genM R R V)/\Below w.heap.size w w':=
 (r12form_gr hM1 v M R C w h hF hR hC hA hB).mono fun e w' ⟨v,r,c,H,U,V,h1,h2,h3,h4⟩=>⟨v,r,c,H,U,V,h1,h2,h3.mono (gx_mono hM1 (eE_mono R h2.hnf.le)),h4⟩
set_option maxHeartbeats 2000000 in
set_option maxRecDepth 20000 in
theorem r12basis_gx {M0 : Nat} (hM1 : 1<=M0) (v : Value) (M : List (List Int)) (R C : Nat) (w : World) (h : MatW w v R C M) (hF : Fits R C M) (hR : R<=1000000) (hC : C<=1000000) (hA : leM M0 R C (ent M)) (hB : gx (eE R R) M0 < BD) :
  Calls Tryz.prog 125 #[v] w fun e w'=>∃v r c H U V,e = .returned v/\HForm R C r c (ent M) H U V/\MatV w' v r C (genM r C H)/\Below w.heap.size w w':=by
 have h0:=h
 obtain ⟨A,rfl,h⟩:=h
 obtain ⟨ao,n,cap,rfl,-,-,-,-⟩:=id h
 have H0:=HidS.mk h0
 have HF:=HidS.mk hF
 have HA:=HidS.mk hA
 have HM:=HidS.mk (And.intro hM1 hB)
 clear h0 hF hA hB hM1 h
 go_enter Tryz.func125,Tryz.ntmps125
 go_upto_region 1 with (fail)
 refine wp_world ?_
 intro W0 hW0
 obtain ⟨hB0,bx,br,hs0⟩:=world2 hW0
 obtain ⟨c1,c2,c3,c4,c5,c6⟩:=bx.three
 clear hW0
 go_wp2_with fail
 refine (r12form_gx HM.out.1 _ M R C W0 (H0.out.below hB0) HF.out hR hC HA.out HM.out.2).mono ?_
 rintro ee w2 ⟨fv,r,κ,H,U,V,rfl,hf,-,-,hv,hb2⟩
 obtain ⟨f1,f2,f3,f4,f5,f6,f7,f8,f9,rfl,hfh⟩:=hv.agg
 have HL:=HidS.mk hf
 have hHn : Hnf C R r κ (ent (genM R C H)):=by
  obtain ⟨q1,q2,q3,q4⟩:=hf.hnf
  have e : ∀a,a < R->∀b,b < C->ent (genM R C H) a b = H a b:=fun a ha b hb=>ent_genM ha hb
  exact ⟨q1,⟨q2.lt,fun k hk=>by rw [e k oM _ (q2.lt k hk)]; exact q2.pos k hk,fun k hk t ht=>by rw [e k oM t (by have:=q2.lt k hk; omega)]; exact q2.zero k hk t ht,q2.inc⟩,
   fun i j h1 h2 h3=>by rw [e i oM _ (q2.lt j h2),e j oM _ (q2.lt j h2)]; exact q3 i j h1 h2 h3,fun a h1 h2 t h3=>by rw [e a h2 t h3]; exact q4 a h1 h2 t h3⟩
 have HHN:=HidS.mk hHn
 have hrR:=hHn.le
 have br:=br.below hb2
 have hB2:=nx hB0 hb2
 clear c1 c2 c3 c4 c5 c6 hv hf hHn
 go_upto_region 2 with (fail)
 refine wp_world ?_
 intro W3 hW3
 obtain ⟨hB3,T3,hs3⟩:=world1 hW3
 have HFH:=HidS.mk (hfh.below hB3)
 have br:=br.below hB3
 have hB3:=nx hB2 hB3
 have lbr:=br.lt
 clear hW3 hfh
 obtain ⟨q0,q1,q2,-⟩:=T3.nine
 refine wp_serH 6 [pcD 4 [] (fun _ v=>v = .int .i64 r),pcD 5 [] (fun w v=>MatV w v (r) (C) ((genM R C H).take r))] ?_
 refine sRd ?_
 refine sRc (fun wS hI Gk hG=>?_) (fun _ hv=>?_)
 ·go_simp
  refine (r12rankT _ R C r κ _ _ (HFH.out.below hI.bel) (genM_fits _ _ _) HHN.out).mono ?_
  rintro e wa ⟨v,rfl,hv,hba⟩
  exact ⟨_,rfl,hG _ _ hv,hba⟩
 obtain ⟨_,-,rfl⟩:=hv
 refine sRc (fun wS hI Gk hG=>by go_simp; exact ck hG (r12top_any _ R C r _ _ (HFH.out.below hI.bel) (genM_fits _ _ _) hrR)) (fun va5 _=>?_)
 refine sRe ?_
 intro w4 hbw4 _ ha5
 have hm : MatV w4 va5 r C (genM r C H):=by rw [<-take_genM hrR]; exact ha5
 obtain ⟨t1,t2,t3,rfl⟩:=hm.agg
 have HMM:=HidS.mk hm
 have br:=br.below hbw4
 have hB4:=nx hB3 hbw4
 obtain ⟨r1,r2,r3,r4,r5,r6⟩:=br.three
 clear q0 q1 q2 hm ha5
 go_wp2
 refine bodyPost_mat (r:=w.heap.size + 1) rfl rfl rfl (br.put3 _ _ _) ?_
 first | exact ⟨_,rfl,r,κ,H,⟨_,_,HL.out⟩,HMM.out.keep3 br _ _ _,bset (bset (bset hB4 oM 0 _) oM 1 _) oM 2 _⟩ | exact ⟨_,r,κ,H,_,_,rfl,HL.out,HMM.out.keep3 br _ _ _,bset (bset (bset hB4 oM 0 _) oM 1 _) oM 2 _⟩
theorem take_genM' {R C : Nat} (F : Nat->Nat->Int) : (genM R C F).take R = genM R C F:=List.take_of_length_le (by simp [genM])
theorem HermV.agg3 {w : World} {f : Value} {R C : Nat} {H U V : List (List Int)} (h : HermV w f R C H U V) : ∃o1 n1 k1 o2 n2 k2 o3 n3 k3,f = .agg #[.int .i64 R,.int .i64 C,.slice o1 n1 k1,.int .i64 R,.int .i64 R,.slice o2 n2 k2,.int .i64 R,.int .i64 R,.slice o3 n3 k3] ∧
  MatV w (.agg #[.int .i64 R,.int .i64 C,.slice o1 n1 k1]) R C H/\MatV w (.agg #[.int .i64 R,.int .i64 R,.slice o2 n2 k2]) R R U/\MatV w (.agg #[.int .i64 R,.int .i64 R,.slice o3 n3 k3]) R R V:=by
 obtain ⟨a,b,c,rfl,h1,h2,h3⟩:=h.ex
 obtain ⟨o1,n1,k1,rfl,-⟩:=id h1
 obtain ⟨o2,n2,k2,rfl,-⟩:=id h2
 obtain ⟨o3,n3,k3,rfl,-⟩:=id h3
 exact ⟨_,_,_,_,_,_,_,_,_,rfl,⟨_,rfl,h1⟩,⟨_,rfl,h2⟩,⟨_,rfl,h3⟩⟩
theorem drop_genM {R C r : Nat} (F : Nat->Nat->Int) : (genM R C F).drop r = genM (R - r) C (cutF r F):=by
 refine List.ext_getElem (by simp [genM]) fun i h1 h2=>?_
 simp [genM,genV,cutF]
theorem MatW.agg {w : World} {v : Value} {R C : Int} {M : List (List Int)} (h : MatW w v R C M) : ∃o n k,v = .agg #[.int .i64 R,.int .i64 C,.slice o n k]:=by
 obtain ⟨A,rfl,ao,n,cap,rfl,-⟩:=h
 exact ⟨_,_,_,rfl⟩
theorem Hnf.genM {R C r : Nat} {κ : Nat->Nat} {H : Nat->Nat->Int} (h : Hnf C R r κ H) : Hnf C R r κ (ent (Go.Proofs.YtjdemlfceaikgaaGreat.genM R C H)):=by
 obtain ⟨q1,q2,q3,q4⟩:=h
 have e : ∀a,a < R->∀b,b < C->ent (Go.Proofs.YtjdemlfceaikgaaGreat.genM R C H) a b = H a b:=fun a ha b hb=>ent_genM ha hb
 exact ⟨q1,⟨q2.lt,fun k hk=>by rw [e k oM _ (q2.lt k hk)]; exact q2.pos k hk,fun k hk t ht=>by rw [e k oM t (by have:=q2.lt k hk; omega)]; exact q2.zero k hk t ht,q2.inc⟩,
  fun i j h1 h2 h3=>by rw [e i oM _ (q2.lt j h2),e j oM _ (q2.lt j h2)]; exact q3 i j h1 h2 h3,fun a h1 h2 t h3=>by rw [e a h2 t h3]; exact q4 a h1 h2 t h3⟩
def LeftP (R C : Nat) (A : Nat->Nat->Int) (m : Nat) (G : Nat->Nat->Int) : Prop:=HB R m G (KerL R C A)/\∃r c H U V,HForm R C r c A H U V
theorem LeftP.of {R C r r' : Nat} {c c' : Nat->Nat} {A H U V H' U' V' : Nat->Nat->Int} {M : List (List Int)} (h : HForm R C r c A H U V) (hM : M = genM (R - r) R (cutF r U)) (h' : HForm (R - r) R r' c' (ent M) H' U' V') : LeftP R C A r' H':=by
 refine ⟨h'.lat.hb.of fun x=>?_,r,c,H,U,V,h⟩
 rw [hM,<-h.ker x]
 exact SpanL.congr (fun a ha b hb=>ent_genM ha hb) x
theorem LeftP.rows {R C m : Nat} {A G : Nat->Nat->Int} (h : LeftP R C A m G) : m<=R:=by
 obtain ⟨hb,r,c,H,U,V,hf⟩:=h
 have:=hker_rows hf hb
 omega
def kb (h : Nat) : Nat:=24 * (8 * (120 * h ^ 4)) ^ 4
def LeftV (R C : Nat) (A : Nat->Nat->Int) (w : World) (v : Value) : Prop:=∃m G,LeftP R C A m G/\MatV w v m R (genM m R G)
theorem HForm.congr {R C r : Nat} {c : Nat->Nat} {A A' H U V : Nat->Nat->Int} (h : HForm R C r c A H U V) (e : ∀a,a < R->∀b,b < C->A a b = A' a b) : HForm R C r c A' H U V:=
 ⟨h.hnf,fun a ha b hb=>(h.mul a ha b hb).trans (sumN_congr fun t ht=>by rw [e t ht b hb]),h.inv,fun a ha b hb=>(e a ha b hb).symm.trans (h.back a ha b hb)⟩
theorem LeftP.congr {R C m : Nat} {A A' G : Nat->Nat->Int} (h : LeftP R C A m G) (e : ∀a,a < R->∀b,b < C->A a b = A' a b) : LeftP R C A' m G:=by
 obtain ⟨hb,r,c,H,U,V,hf⟩:=h
 exact ⟨hb.of (KerL.congr e),r,c,H,U,V,hf.congr e⟩
def SatP (R C : Nat) (A : Nat->Nat->Int) (m : Nat) (S : Nat->Nat->Int) : Prop:=HB C m S (SatL R C A)/\Min1 m R C A
theorem SatP.of {R C k m : Nat} {A K S : Nat->Nat->Int} (h1 : LeftP C R (trF A) k K) (h2 : LeftP C k (trF K) m S) : SatP R C A m S:=by
 obtain ⟨hK,r1,c1,H1,U1,V1,f1⟩:=h1
 obtain ⟨hS,r2,c2,H2,U2,V2,f2⟩:=h2
 have e1:=hker_rows f1 hK
 have e2:=hker_rows f2 hS
 have e3:=f2.lat.rank hK.min1.tr
 have e4:=Min1.le (A:=K) f2.lat.min1.tr
 obtain rfl : m = r1:=by omega
 exact ⟨sat_hb hK hS,f1.lat.min1.tr⟩
theorem SatP.none (C : Nat) (A S : Nat->Nat->Int) : SatP 0 C A 0 S:=by
 refine ⟨⟨⟨fun k=>k,Nat.le_refl _,⟨fun k hk=>by omega,fun k hk=>by omega,fun k hk=>by omega,fun k l _ hl=>by omega⟩,fun i j _ hj=>by omega,fun a _ ha=>by omega⟩,fun x=>⟨fun h=>⟨fun _=>0,fun b hb=>?_⟩,?_⟩⟩,⟨fun a=>a,fun a=>a,fun a ha=>by omega,fun a ha=>by omega,show (1 : Int) ≠ 0 by decide⟩⟩
 ·have:=h (fun t=>idf t b) fun a ha=>by omega
  rw [sumN_one hb (fun i _ hne=>by rw [show idf i b = 0 from if_neg hne,Int.mul_zero]),show idf b b = 1 from if_pos rfl,Int.mul_one] at this
  exact this
 ·rintro ⟨y,hy⟩ z _
  exact sumN_zero fun b hb=>by rw [hy b hb]; exact Int.zero_mul _
theorem SatP.congr {R C m : Nat} {A A' S : Nat->Nat->Int} (h : SatP R C A m S) (e : ∀a,a < R->∀b,b < C->A a b = A' a b) : SatP R C A' m S:=by
 refine ⟨h.1.of (SatL.congr e),?_⟩
 obtain ⟨σ,τ,a,b,d⟩:=h.2
 exact ⟨σ,τ,a,b,by rwa [<-det_congr (F:=fun x y=>A (σ x) (τ y)) fun x hx y hy=>e _ (a x hx) _ (b y hy)]⟩
theorem SatP.rank {R C m r : Nat} {c : Nat->Nat} {A S H : Nat->Nat->Int} (h : SatP R C A m S) (hA : HLat R C r c A H) : m = r:=by
 have h1:=hA.rank h.2
 obtain ⟨X,hX⟩:=choose_rows fun a ha=>(h.1.iff _).1 (SatL.self (A:=A) (R:=R) ha)
 have h2:=rows_le hX hA.min1
 omega
def SatV (R C : Nat) (A : Nat->Nat->Int) (w : World) (v : Value) : Prop:=∃m S,SatP R C A m S/\MatV w v m C (genM m C S)
abbrev tG : TypeId:=166
def ClosV (f g : Nat) (t : TypeId) (w : World) (v : Value) : Prop:=∃b,v = .func (.func f) #[] #[.pointer (some ⟨b,0,none⟩)]/\Blk w b t #[.func (.func g) #[] #[]]
structure ThrP (R C : Nat) (M : List (List Int)) (k : Nat) (w : World) (v : Value) : Prop where
 zero : k = 0->MatV w v R C M
 one : k = 1->LeftV C R (trF (ent M)) w v
 two : k = 2->SatV R C (ent M) w v
def SlC2 (f g : Nat) (t : TypeId) : World->Value->Prop:=fun w v=>∃s b1 b2,v = .slice (some ⟨s,0,none⟩) 2 2/\Blk w s t #[.func (.func f) #[] #[.pointer (some ⟨b1,0,none⟩)],.func (.func f) #[] #[.pointer (some ⟨b2,0,none⟩)]]/\Blk w b1 t #[.func (.func g) #[] #[]]/\Blk w b2 t #[.func (.func g) #[] #[]]
def SatdP (R C : Nat) (A : Nat->Nat->Int) : Prop:=∀x,SatL R C A x->SpanL R C A x
def BasV (R C : Nat) (A : Nat->Nat->Int) (w : World) (v : Value) : Prop:=∃r c H,HLat R C r c A H/\MatV w v r C (genM r C H)
def NewW (t : TypeId) (n0 : Nat) (cs : Array Value) (w : World) (v : Value) : Prop:=∃b,v = .pointer (some ⟨b,0,none⟩)/\n0<=b/\Blk w b t cs
theorem lastsB_newW (t : TypeId) (n0 : Nat) (cs : Array Value) : LastsB (NewW t n0 cs):=fun _ _ _ e ⟨b,h1,h2,h3⟩=>⟨b,h1,h2,h3.below e⟩
theorem gx_BDk {e M0 E : Nat} (hM : 2 * M0<=2 ^ e) (hE : 1<=E) (hk : e * E<=32 * DLIM) : gx E M0 < BD:=by
 rw [BD_eq]
 have h2:=gx_two (M:=M0) hE
 have h3 : (2 * M0) ^ E<=(2 ^ e) ^ E:=Nat.pow_le_pow_left hM _
 rw [<-Nat.pow_mul] at h3
 have h4:=pow_le_B32 hk
 have h5 : 0 < 2 ^ (e * E):=Nat.pow_pos oM
 omega
set_option maxHeartbeats 8000000 in
set_option maxRecDepth 20000 in
theorem r15left_gr {M0 : Nat} (hM1 : 1<=M0) (v : Value) (M : List (List Int)) (R C : Nat) (w : World) (h : MatV w v R C M) (hF : Fits R C M) (hR : R<=1000) (hC : C<=1000000) (hA : leM M0 R C (ent M))
  (hg1 : gx (eE R R) M0 < BD) (hg2 : ∀r,r<=R->(r = 0->∀a,a < R->∀b,b < C->ent M a b = 0)->gx (eE (R - r) (R - r)) (gx (eE R r) M0) < BD) :
  Calls Tryz.prog 108 #[v] w fun e w'=>∃v,e = .returned v/\LeftV R C (ent M) w' v/\Below w.heap.size w w':=by
 have gx_pos1 : ∀{r : Nat},1<=gx (eE R r) M0:=fun {r}=>Nat.le_trans hM1 (gx_ge hM1 (eE_pos R r))
 have h0:=h
 obtain ⟨A,rfl,h⟩:=h
 obtain ⟨ao,n,cap,rfl,e2,e3,e4,-⟩:=id h
 obtain rfl : R = n:=by rw [<-e2,hF.1]
 have H0:=HidS.mk h0
 have HF:=HidS.mk hF
 have HA:=HidS.mk hA
 have HG1:=HidS.mk hg1
 have HG2:=HidS.mk hg2
 clear h0 hF e2 h hA hg1 hg2
 go_enter Tryz.func108,Tryz.ntmps108
 go_upto_region 1 with (fail)
 refine wp_world ?_
 intro W0 hW0
 obtain ⟨hB0,bx,br,hs0⟩:=world2 hW0
 obtain ⟨c1,c2,c3,c4,c5,c6⟩:=bx.three
 clear hW0
 go_wp2_with fail
 refine (r12form_gr hM1 _ M R C W0 (H0.out.below hB0).off HF.out oM hC HA.out HG1.out).mono ?_
 rintro e w2 ⟨fv,r,κ,H,U,V,rfl,hf,hU,-,hv,hb2⟩
 obtain ⟨f1,f2,f3,f4,f5,f6,f7,f8,f9,rfl,hfh,hfu,-⟩:=hv.agg3
 have hrR:=hf.hnf.le
 have HHN : HidS (Hnf C R r κ (ent (genM R C H))):=⟨hf.hnf.genM⟩
 have HGG : HidS (gx (eE (R - r) (R - r)) (gx (eE R r) M0) < BD):=⟨HG2.out r hrR fun hr a ha b hb=>by
  subst hr
  rw [hf.back a ha b hb]
  exact sumN_zero fun t ht=>by rw [hf.hnf.zero t (Nat.zero_le _) ht b hb,Int.mul_zero]⟩
 have HUL : HidS (leM (gx (eE R r) M0) (R - r) R (ent (((genM R R U).take R).drop r))):=⟨by
  rw [take_genM',drop_genM]
  exact ent_leM fun a ha b hb=>hU (r + a) oM b hb⟩
 have HFI : HidS (Fits (R - r) R (((genM R R U).take R).drop r)):=⟨by rw [take_genM',drop_genM]; exact genM_fits _ _ _⟩
 have HLP : HidS (∀r' c' H' U' V',HForm (R - r) R r' c' (ent (((genM R R U).take R).drop r)) H' U' V'->LeftP R C (ent M) r' H'):=⟨fun r' c' H' U' V' h'=>LeftP.of hf (by rw [take_genM',drop_genM]) h'⟩
 have br:=br.below hb2
 have bx:=bx.below hb2
 have hB:=nx hB0 hb2
 clear c1 c2 c3 c4 c5 c6 hf hU hv
 go_upto_region 2 with (fail)
 refine wp_world ?_
 intro W3 hW3
 obtain ⟨hB3,T3,hs3⟩:=world1 hW3
 have HFH:=HidS.mk (hfh.below hB3)
 have HFU:=HidS.mk (hfu.below hB3)
 have bx:=bx.below hB3
 have br:=br.below hB3
 have hB:=nx hB hB3
 clear hW3 hfh hfu
 obtain ⟨q0,q1,q2,-⟩:=T3.nine
 go_wp2_with fail
 refine (r12rankT _ R C r κ _ W3 HFH.out (genM_fits _ _ _) HHN.out).mono ?_
 rintro e w3 ⟨_,rfl,rfl,hb3⟩
 have T3:=T3.below hb3
 have HFU:=HidS.mk (HFU.out.below hb3)
 have bx:=bx.below hb3
 have br:=br.below hb3
 have hB:=nx hB hb3
 have q3':=hb3.size
 clear q0 q1 q2
 go_upto_region 3 with (fail)
 have lbr:=br.lt
 obtain ⟨c1,c2,c3,c4,c5,c6⟩:=bx.three
 obtain ⟨q0,q1,q2,q3,q4',q5,q6,q7,q8⟩:=T3.nine
 have hsub : (R : Int) - (r : Int) = ((R - r : Nat) : Int):=by omega
 have hw : IntKind.i64.wrap ((R - r : Nat) : Int) = ((R - r : Nat) : Int):=IntWalk.i64_in _ oM
 have hl1:=lastsB_newW 41 w3.heap.size #[.int .i64 0,.int .i64 0,.slice none 0 0]
 obtain ⟨A3,e3,hru⟩:=id HFU.out
 injection e3 with e3
 simp only [Array.mk.injEq,List.cons.injEq,and_true,true_and] at e3
 subst e3
 have hlu:=hru.len
 obtain rfl : R = f5:=by rw [<-hlu.1]; simp [genM]
 have hlc:=hlu.2.1
 rcases Nat.eq_zero_or_pos R with h0 | h0
 ·subst h0
  obtain rfl : r = 0:=by omega
  have hz : ((genM 0 0 U).take 0).drop 0 = []:=rfl
  cases f4 with
  | none=>
   refine wp_serH 13 [pcD 12 [] (NewW 41 w3.heap.size #[.int .i64 0,.int .i64 0,.slice none 0 0])] ?_
   refine sRd ?_
   refine sRc (fun wS hI Gk hG=>?_) (fun va12 _=>?_)
   ·go_simp
    exact ⟨hG _ _ ⟨_,rfl,hI.bel.size,Blk.new _ _ _⟩,(Below.refl _ _).alloc (Nat.le_refl _) _⟩
   refine sRe ?_
   intro w4 hbw4 ha12
   obtain ⟨b5,rfl,hb5,T5⟩ : NewW 41 w3.heap.size #[.int .i64 0,.int .i64 0,.slice none 0 0] w4 va12:=ha12
   obtain ⟨n1,n2,n3,n4,n5,n6⟩:=T5.three
   have bx:=bx.below hbw4
   have br:=br.below hbw4
   have hB4:=nx hB hbw4
   have HFU:=HidS.mk (HFU.out.below hbw4)
   have q4:=hbw4.size
   clear c1 c2 c3 c4 c5 c6 q0 q1 q2 q3 q4' q5 q6 q7 q8
   go_upto_region 4 with (fail)
   refine wp_world ?_
   intro W5 hW5
   have T5n : Blk W5 b5 41 #[.int .i64 ((0 - 0 : Nat) : Int),.int .i64 0,.slice none (0 - 0) (f6 - 0)]:=by rw [hW5.out]; exact T5.put3 _ _ _
   have hMW : MatW W5 (.agg #[.int .i64 ((0 - 0 : Nat) : Int),.int .i64 0,.slice none (0 - 0) (f6 - 0)]) ((0 - 0 : Nat) : Int) 0 (((genM 0 0 U).take 0).drop 0):=by
    rw [hW5.out]
    exact MatW.keep3 ⟨_,rfl,none,0,f6,rfl,rfl,Nat.zero_le _,by omega,fun h=>absurd rfl h⟩ T5 _ _ _
   have ho5 : ∀b,b ≠ b5->W5.heap[b]? = w4.heap[b]?:=fun b hb=>by rw [hW5.out]; exact set3_old _ _ _ _ _ _ hb
   have hB5 : Below w.heap.size w W5:=by rw [hW5.out]; exact bset (bset (bset hB4 oM _ _) oM _ _) oM _ _
   have br : Blk W5 (w.heap.size + 1) 41 #[.int .i64 0,.int .i64 0,.slice none 0 0]:=(ho5 _ oM).trans br
   have HMW:=HidS.mk hMW
   clear hW5 n1 n2 n3 n4 n5 n6 T5 hMW
   obtain ⟨n1,n2,n3,n4,n5,n6⟩:=T5n.three
   go_wp2_with fail
   refine (r12basis_gx gx_pos1 _ _ (0 - 0) 0 W5 HMW.out HFI.out oM oM HUL.out HGG.out).mono ?_
   rintro e w6 ⟨v',r',c',H',U',V',rfl,hf',hm',hb6⟩
   have HLL : HidS (LeftP 0 C (ent M) r' H'):=⟨HLP.out _ _ _ _ _ hf'⟩
   obtain ⟨t1,t2,t3,rfl⟩:=hm'.agg
   have br:=br.below hb6
   have hB6:=nx hB5 hb6
   obtain ⟨r1,r2,r3,r4,r5,r6⟩:=br.three
   have HMM:=HidS.mk hm'
   clear hm' hf' n1 n2 n3 n4 n5 n6
   go_wp2
   refine bodyPost_mat (r:=w.heap.size + 1) rfl rfl rfl (br.put3 _ _ _) ⟨_,rfl,⟨r',H',HLL.out,HMM.out.keep3 br _ _ _⟩,bset (bset (bset hB6 oM 0 _) oM 1 _) oM 2 _⟩
  | some a4=>
   refine wp_serH 13 [pcD 12 [] (NewW 41 w3.heap.size #[.int .i64 0,.int .i64 0,.slice none 0 0])] ?_
   refine sRd ?_
   refine sRc (fun wS hI Gk hG=>?_) (fun va12 _=>?_)
   ·go_simp
    exact ⟨hG _ _ ⟨_,rfl,hI.bel.size,Blk.new _ _ _⟩,(Below.refl _ _).alloc (Nat.le_refl _) _⟩
   refine sRe ?_
   intro w4 hbw4 ha12
   obtain ⟨b5,rfl,hb5,T5⟩ : NewW 41 w3.heap.size #[.int .i64 0,.int .i64 0,.slice none 0 0] w4 va12:=ha12
   obtain ⟨n1,n2,n3,n4,n5,n6⟩:=T5.three
   have bx:=bx.below hbw4
   have br:=br.below hbw4
   have hB4:=nx hB hbw4
   have HFU:=HidS.mk (HFU.out.below hbw4)
   have q4:=hbw4.size
   clear c1 c2 c3 c4 c5 c6 q0 q1 q2 q3 q4' q5 q6 q7 q8
   go_upto_region 4 with (fail)
   refine wp_world ?_
   intro W5 hW5
   have T5n : Blk W5 b5 41 #[.int .i64 ((0 - 0 : Nat) : Int),.int .i64 0,.slice (some a4) (0 - 0) (f6 - 0)]:=by rw [hW5.out]; exact T5.put3 _ _ _
   have hMW : MatW W5 (.agg #[.int .i64 ((0 - 0 : Nat) : Int),.int .i64 0,.slice (some a4) (0 - 0) (f6 - 0)]) ((0 - 0 : Nat) : Int) 0 (((genM 0 0 U).take 0).drop 0):=by
    rw [hW5.out]
    exact MatW.keep3 ⟨_,rfl,some a4,0,f6,rfl,rfl,Nat.zero_le _,by omega,fun h=>absurd rfl h⟩ T5 _ _ _
   have ho5 : ∀b,b ≠ b5->W5.heap[b]? = w4.heap[b]?:=fun b hb=>by rw [hW5.out]; exact set3_old _ _ _ _ _ _ hb
   have hB5 : Below w.heap.size w W5:=by rw [hW5.out]; exact bset (bset (bset hB4 oM _ _) oM _ _) oM _ _
   have br : Blk W5 (w.heap.size + 1) 41 #[.int .i64 0,.int .i64 0,.slice none 0 0]:=(ho5 _ oM).trans br
   have HMW:=HidS.mk hMW
   clear hW5 n1 n2 n3 n4 n5 n6 T5 hMW
   obtain ⟨n1,n2,n3,n4,n5,n6⟩:=T5n.three
   go_wp2_with fail
   refine (r12basis_gx gx_pos1 _ _ (0 - 0) 0 W5 HMW.out HFI.out oM oM HUL.out HGG.out).mono ?_
   rintro e w6 ⟨v',r',c',H',U',V',rfl,hf',hm',hb6⟩
   have HLL : HidS (LeftP 0 C (ent M) r' H'):=⟨HLP.out _ _ _ _ _ hf'⟩
   obtain ⟨t1,t2,t3,rfl⟩:=hm'.agg
   have br:=br.below hb6
   have hB6:=nx hB5 hb6
   obtain ⟨r1,r2,r3,r4,r5,r6⟩:=br.three
   have HMM:=HidS.mk hm'
   clear hm' hf' n1 n2 n3 n4 n5 n6
   go_wp2
   refine bodyPost_mat (r:=w.heap.size + 1) rfl rfl rfl (br.put3 _ _ _) ⟨_,rfl,⟨r',H',HLL.out,HMM.out.keep3 br _ _ _⟩,bset (bset (bset hB6 oM 0 _) oM 1 _) oM 2 _⟩
 ·obtain ⟨b,rfl⟩ : ∃b,f4 = some ⟨b,0,none⟩:=by
   obtain ⟨b,_,_,_,_,e,-⟩:=hru.row (k:=0) (by simp [genM]; omega)
   exact ⟨b,e⟩
  obtain ⟨q,hq⟩ : ∃q : Option Addr,(if f6 = r then some ⟨b,0,none⟩ else some ⟨b,r,none⟩) = q:=⟨_,rfl⟩
  have HQ2 : HidS (r < R->q = some ⟨b,r,none⟩):=⟨fun hlt=>by rw [<-hq,if_neg oM]⟩
  clear hru hlu
  refine wp_serH 13 [pcD 12 [] (NewW 41 w3.heap.size #[.int .i64 0,.int .i64 0,.slice none 0 0])] ?_
  refine sRd ?_
  refine sRc (fun wS hI Gk hG=>?_) (fun va12 _=>?_)
  ·go_simp
   exact ⟨hG _ _ ⟨_,rfl,hI.bel.size,Blk.new _ _ _⟩,(Below.refl _ _).alloc (Nat.le_refl _) _⟩
  refine sRe ?_
  intro w4 hbw4 ha12
  obtain ⟨b5,rfl,hb5,T5⟩ : NewW 41 w3.heap.size #[.int .i64 0,.int .i64 0,.slice none 0 0] w4 va12:=ha12
  obtain ⟨n1,n2,n3,n4,n5,n6⟩:=T5.three
  have bx:=bx.below hbw4
  have br:=br.below hbw4
  have hB4:=nx hB hbw4
  have HFU:=HidS.mk (HFU.out.below hbw4)
  have q4:=hbw4.size
  clear c1 c2 c3 c4 c5 c6 q0 q1 q2 q3 q4' q5 q6 q7 q8
  go_upto_region 4 with (fail)
  refine wp_world ?_
  intro W5 hW5
  have T5n : Blk W5 b5 41 #[.int .i64 ((R - r : Nat) : Int),.int .i64 R,.slice q (R - r) (f6 - r)]:=by rw [hW5.out]; exact T5.put3 _ _ _
  have hMW : MatW W5 (.agg #[.int .i64 ((R - r : Nat) : Int),.int .i64 R,.slice q (R - r) (f6 - r)]) ((R - r : Nat) : Int) R (((genM R R U).take R).drop r):=by
   rw [hW5.out]
   exact MatW.keep3 ⟨_,rfl,RowsV.cut (by obtain ⟨A4,e4,h4⟩:=HFU.out; injection e4 with e4; simp only [Array.mk.injEq,List.cons.injEq,and_true,true_and] at e4; subst e4; exact h4) hrR (Nat.le_refl _) q HQ2.out (f6 - r) oM oM⟩ T5 _ _ _
  have ho5 : ∀b,b ≠ b5->W5.heap[b]? = w4.heap[b]?:=fun b hb=>by rw [hW5.out]; exact set3_old _ _ _ _ _ _ hb
  have hB5 : Below w.heap.size w W5:=by rw [hW5.out]; exact bset (bset (bset hB4 oM _ _) oM _ _) oM _ _
  have br : Blk W5 (w.heap.size + 1) 41 #[.int .i64 0,.int .i64 0,.slice none 0 0]:=(ho5 _ oM).trans br
  have HMW:=HidS.mk hMW
  clear hW5 n1 n2 n3 n4 n5 n6 T5 hMW
  obtain ⟨n1,n2,n3,n4,n5,n6⟩:=T5n.three
  go_wp2_with fail
  refine (r12basis_gx gx_pos1 _ _ (R - r) R W5 HMW.out HFI.out oM oM HUL.out HGG.out).mono ?_
  rintro e w6 ⟨v',r',c',H',U',V',rfl,hf',hm',hb6⟩
  have HLL : HidS (LeftP R C (ent M) r' H'):=⟨HLP.out _ _ _ _ _ hf'⟩
  obtain ⟨t1,t2,t3,rfl⟩:=hm'.agg
  have br:=br.below hb6
  have hB6:=nx hB5 hb6
  obtain ⟨r1,r2,r3,r4,r5,r6⟩:=br.three
  have HMM:=HidS.mk hm'
  clear hm' hf' n1 n2 n3 n4 n5 n6
  go_wp2
  refine bodyPost_mat (r:=w.heap.size + 1) rfl rfl rfl (br.put3 _ _ _) ⟨_,rfl,⟨r',H',HLL.out,HMM.out.keep3 br _ _ _⟩,bset (bset (bset hB6 oM 0 _) oM 1 _) oM 2 _⟩
def kbn (h : Nat) : Nat:=5040 * (64 * (7 * (5040 * h ^ 7))) ^ 7
theorem eE_fit7 {R r : Nat} (hR : R<=7) (hr : r<=R) : eE R r * eE (R - r) (R - r)<=2 ^ 28:=by
 have : ∀R,R<=7->∀r,r<=R->eE R r * eE (R - r) (R - r)<=2 ^ 28:=by decide
 exact this R hR r hr
theorem eE_fit5 {R r : Nat} (hR : R<=5) (hr : r<=R) : eE R r * eE (R - r) (R - r)<=2 ^ 18:=by
 have : ∀R,R<=5->∀r,r<=R->eE R r * eE (R - r) (R - r)<=2 ^ 18:=by decide
 exact this R hR r hr
theorem gx_fit {e R r : Nat} (h : R<=7/\e<=10000 ∨ R<=5/\e<=1000000) (hr : r<=R) : gx (eE (R - r) (R - r)) (gx (eE R r) (2 ^ e)) < BD:=by
 rw [gx_gx (eE_pos _ _)]
 refine gx_BDk (e:=e + 1) (by rw [Nat.pow_succ]; omega) (Nat.mul_pos (eE_pos _ _) (eE_pos _ _)) ?_
 rw [DLIM_eq]
 rcases h with ⟨h1,h2⟩ | ⟨h1,h2⟩
 ·exact Nat.le_trans (Nat.mul_le_mul (show e + 1<=10001 by omega) (eE_fit7 h1 hr)) oM
 ·exact Nat.le_trans (Nat.mul_le_mul (show e + 1<=1000001 by omega) (eE_fit5 h1 hr)) oM
theorem gx_fit0 {e R : Nat} (h : R<=7/\e<=10000 ∨ R<=5/\e<=1000000) : gx (eE R R) (2 ^ e) < BD:=by
 have:=gx_fit h (Nat.le_refl R)
 rw [Nat.sub_self] at this
 rwa [show eE 0 0 = 1 from rfl,gx_one] at this
theorem ent_bdLs {c : Cx} {k : Int} {a b : Nat} (ha : a < (cellsC c k).length) (hb : b < (cellsC c (k - 1)).length) : ent (bdLs c k) a b = bdM c k a b:=by
 obtain ⟨i,hi⟩ : ∃i,(cellsC c k)[a]? = some i:=⟨_,List.getElem?_eq_getElem ha⟩
 obtain ⟨j,hj⟩ : ∃j,(cellsC c (k - 1))[b]? = some j:=⟨_,List.getElem?_eq_getElem hb⟩
 refine (ent_of (r:=(cellsC c (k - 1)).map (coef (bOf c i))) (z:=coef (bOf c i) j) ?_ ?_).trans ?_
 ·unfold bdLs
  rw [List.getElem?_map,hi]
  rfl
 ·rw [List.getElem?_map,hj]
  rfl
 ·unfold bdM
  rw [getD_of hi,getD_of hj]
theorem bdLs_fits (c : Cx) (k : Int) : Fits (cellsC c k).length (cellsC c (k - 1)).length (bdLs c k):=by
 refine ⟨by unfold bdLs; rw [List.length_map],fun r hr=>?_⟩
 unfold bdLs at hr
 obtain ⟨i,-,rfl⟩:=List.mem_map.1 hr
 rw [List.length_map]
def CycP (c : Cx) (k : Int) (B : Nat) (L : List Ch) : Prop:=L.length<=7/\∀x ∈ L,ValC x/\HomD c k x/\bdC c x = []/\nrm x<=B
theorem ofC_row {c : Cx} {k : Int} {m h i : Nat} {G : Nat->Nat->Int} (hv : ValX c) (hL : LeftP (cellsC c k).length (cellsC c (k - 1)).length (ent (bdLs c k)) m G) (hi : i < m) (hR : (cellsC c k).length<=7) (h1 : 1<=h) (hA : leM h (cellsC c k).length (cellsC c (k - 1)).length (ent (bdLs c k))) :
  ValC (ofC (cellsC c k) (genV (cellsC c k).length (G i)))/\HomD c k (ofC (cellsC c k) (genV (cellsC c k).length (G i)))/\bdC c (ofC (cellsC c k) (genV (cellsC c k).length (G i))) = []/\nrm (ofC (cellsC c k) (genV (cellsC c k).length (G i)))<=7 * kbn h/\nrm ((cellsC c k).zip (genV (cellsC c k).length (G i)))<=7 * kbn h:=by
 have hm:=hL.rows
 obtain ⟨hb,r,cc,H,U,V,hf⟩:=hL
 have hbd:=hker_bound7 (N:=7) hf hb (Nat.le_refl _) oM hR oM h1 hA
 have hz : nrm ((cellsC c k).zip (genV (cellsC c k).length (G i)))<=7 * kbn h:=by
  refine Nat.le_trans (nrm_zip (h:=kbn h) fun z hz=>?_) (Nat.mul_le_mul_right _ hR)
  obtain ⟨t,ht,rfl⟩:=List.mem_map.1 hz
  exact hbd i hi t (List.mem_range.1 ht)
 refine ⟨ofC_val _ _,ofC_hom hv k _,?_,Nat.le_trans (nrm_of _ _) hz,hz⟩
 refine ofC_cyc hv fun b hb'=>?_
 have h3:=(hb.iff (G i)).2 (SpanL.row G hi) b hb'
 rw [<-h3]
 exact sumN_congr fun a ha=>by rw [ent_bdLs ha hb']
theorem Tryz.infoChn : (Tryz.prog.info? tCh).map (fun i=>(i.zero,i.size,i.bytes)) = some (some (.slice none 0 0),1,24):=by kernel_rfl
theorem ChsV.one {w : World} {g : Nat} {o : Option Addr} {n c : Nat} {x : Ch} (hb : Blk w g tCh #[.slice o n c]) (h : ChnV w (.slice o n c) x) : ChsV w (.slice (some ⟨g,0,none⟩) 1 1) [x]:=
 (LsO.lit (e:=chnE) (xs:=[x]) hb (Nat.zero_le _) [[.slice o n c]] rfl rfl (fun i vs x h1 h2=>by
  cases i with
  | zero=>cases h1; cases h2; exact ⟨_,rfl,h⟩
  | succ i=>simp at h1) (by simp [maxLen])).vs
theorem appCh {w : World} {ops : Array Oper} {rest : List Oper} {o : Oper} {a : Act} {Q : Exit->Act->World->Prop} (hgd : o.guard = none) (s x : Operand)
  (ho : o.op = .call { callee:=.builtin .append,args:=#[s,x],argTypes:=#[143,143] })
  (base : Nat) (v : Value) (xs : List Ch) (hs : a.eval s = v) (hown : ChsO w base v xs) (yv : Value) (ys : List Ch) (hx : a.eval x = yv) (hy : ChsV w yv ys) (hlen : xs.length + ys.length<=10000000) (hbase : base<=w.heap.size)
  (h : ∀v' w',ChsO w' base v' (xs ++ ys)->w.grownBy w' v.ownBlock->TE [tFc,tU] w w'->wpList Tryz.prog ops Q rest (a.put o.dst v') w') : wpList Tryz.prog ops Q (o :: rest) a w:=by
 obtain ⟨i0,hi,hz0,hz1,hz2⟩:=info_parts Tryz.infoChn
 exact wpList_appLs hgd chnE s x 143 ho Tryz.underlying143 hi hz0 hz1 hz2 rfl dE base v xs hs hown yv ys hx hy oM hbase fun v' w' h1 h2 h3=>h v' w' h1 h2 h3
theorem LsO.tg {α : Type} {e : El α} {w w' : World} {base : Nat} {v : Value} {xs : List α} (h : LsO e w base v xs) {ts : List TypeId} (hT : e.T ∉ ts) (hg : w.grownBy w' v.ownBlock) : TE ts w w':=by
 obtain ⟨L,h1,-⟩:=h
 exact TE.grown h1 hT hg
theorem RowsV.te {w w' : World} {v : Value} {M : List (List Int)} (h : RowsV w v M) (ht : TE [tRw,tI,tU] w w') : RowsV w' v M:=by
 obtain ⟨ao,n,cap,h1,h2,h3,h4,h5⟩:=h
 refine ⟨ao,n,cap,h1,h2,h3,h4,fun hn=>?_⟩
 obtain ⟨b,cs,e1,e2,e3⟩:=h5 hn
 refine ⟨b,cs,e1,ht _ _ _ _ sI e2,fun k zs hk=>?_⟩
 obtain ⟨rv,e4,e5⟩:=e3 k zs hk
 exact ⟨rv,e4,e5.te ht sI sI⟩
theorem MatV.te {w w' : World} {v : Value} {R C : Int} {M : List (List Int)} (h : MatV w v R C M) (ht : TE [tRw,tI,tU] w w') : MatV w' v R C M:=by
 obtain ⟨A,h1,h2⟩:=h
 exact ⟨A,h1,h2.te ht⟩
set_option maxHeartbeats 8000000 in
set_option maxRecDepth 20000 in
theorem cycles_any {e : Nat} (v : Value) (c : Cx) (k : Int) (w : World) (h : CpxV w v c) (hv : ValX c) (hn : c.length<=1000) (hL : ∀f ∈ c,f.2.2.length<=1000000) (hk : 0<=k/\k<=1000) (hR : (cellsC c k).length<=7/\e<=10000 ∨ (cellsC c k).length<=5/\e<=1000000)
  (hA : leM (2 ^ e) (cellsC c k).length (cellsC c (k - 1)).length (ent (bdLs c k))) (hB : SmN (7 * kbn (2 ^ e))) :
  Calls Tryz.prog 79 #[v,.int .i64 k] w fun e' w'=>∃u L,e' = .returned u/\ChsV w' u L/\CycP c k (7 * kbn (2 ^ e)) L/\Below w.heap.size w w':=by
 obtain ⟨ao,ac,rfl,-,hc1⟩:=id h.shape
 obtain ⟨n,hxn⟩ : ∃n,c.length = n:=⟨_,rfl⟩
 have H:=HidS.mk h
 have HXN:=HidS.mk hxn
 obtain ⟨R,hRR⟩ : ∃R,(cellsC c k).length = R:=⟨_,rfl⟩
 obtain ⟨C,hCC⟩ : ∃C,(cellsC c (k - 1)).length = C:=⟨_,rfl⟩
 have hCn : C<=c.length:=by rw [<-hCC]; exact cells_len
 have HBD : HidS (∀w,CpxV w (.slice ao n ac) c->Calls Tryz.prog 29 #[.slice ao n ac,.int .i64 k] w fun e w'=>∃u,e = .returned u/\MatV w' u R C (bdLs c k)/\Below w.heap.size w w'):=⟨fun w h=>by
  rw [<-hRR,<-hCC]
  exact bd25_any _ c k w h hv oM ⟨by omega,hk.2⟩ hL⟩
 rw [hRR,hCC] at hA
 rw [hRR] at hR
 have hFt:=bdLs_fits c k
 rw [hRR,hCC] at hFt
 have HLF : HidS (∀v w,MatV w v R C (bdLs c k)->Calls Tryz.prog 108 #[v] w fun e w'=>∃v,e = .returned v/\LeftV R C (ent (bdLs c k)) w' v/\Below w.heap.size w w'):=⟨fun v w h=>
  r15left_gr (M0:=2 ^ e) (Nat.pow_pos dE) v (bdLs c k) R C w h hFt oM oM hA (gx_fit0 hR) fun r hr _=>gx_fit hR hr⟩
 have hR7 : R<=7:=by omega
 have HROW : HidS (∀m G,LeftP R C (ent (bdLs c k)) m G->m<=7/\∀i,i < m->ValC (ofC (cellsC c k) (genV R (G i)))/\HomD c k (ofC (cellsC c k) (genV R (G i)))/\bdC c (ofC (cellsC c k) (genV R (G i))) = []/\nrm (ofC (cellsC c k) (genV R (G i)))<=7 * kbn (2 ^ e)/\nrm ((cellsC c k).zip (genV R (G i)))<=7 * kbn (2 ^ e)):=⟨fun m G hP=>by
  refine ⟨Nat.le_trans hP.rows hR7,fun i hi=>?_⟩
  subst hRR
  subst hCC
  exact ofC_row hv hP hi hR7 (Nat.pow_pos dE) hA⟩
 have HOF : HidS (∀v r zs w,CpxV w v c->VecV w r zs->zs.length = R->nrm ((cellsC c k).zip zs)<=7 * kbn (2 ^ e)->Calls Tryz.prog 58 #[v,.int .i64 k,r] w fun e w'=>∃u,e = .returned u/\ChnV w' u (ofC (cellsC c k) zs)/\Below w.heap.size w w'):=⟨fun v r zs w h1 h2 h3 h4=>cof_any v r c k zs w h1 h2 oM (by rw [h3,hRR]) (hB.le h4)⟩
 obtain ⟨I,hI⟩ : ∃I,cellsC c k = I:=⟨_,rfl⟩
 obtain ⟨B,hBB⟩ : ∃B,7 * kbn (2 ^ e) = B:=⟨_,rfl⟩
 rw [hI,hBB] at HROW HOF
 rw [hBB]
 rw [hxn] at H ⊢
 clear h hxn hv hL hR hA hRR hCC hFt hI hBB hB hCn
 have hk0 : ¬ k < 0:=by omega
 go_enter Tryz.func79,Tryz.ntmps79
 go_upto_region 2 with (fail)
 refine wp_world ?_
 intro W0 hW0
 obtain ⟨hB0,-,hs0⟩:=world1 hW0
 have hO : ChsO W0 w.heap.size (.slice (some ⟨w.heap.size,0,none⟩) 0 0) []:=by
  rw [hW0.out]
  exact LsO.made chnE w (Nat.le_refl _)
 have HO:=HidS.mk hO
 have H0:=HidS.mk H.out
 have H:=HidS.mk (H.out.below hB0)
 clear hW0 hO
 go_wp2_with fail
 refine (HBD.out W0 H.out).mono ?_
 rintro e1 w1 ⟨m1,rfl,hm1,hb1⟩
 have hm1':=hm1
 obtain ⟨A1,rfl,-⟩:=hm1'
 have HM1:=HidS.mk hm1
 have H:=HidS.mk (H.out.below hb1)
 have HO:=HidS.mk (HO.out.below hb1)
 clear hm1
 go_wp2_with fail
 refine (HLF.out _ w1 HM1.out).mono ?_
 rintro e2 w2 ⟨m2,rfl,⟨m,G,hP,hm2⟩,hb2⟩
 obtain ⟨hm7,hG⟩:=HROW.out m G hP
 have HG:=HidS.mk hG
 have hm2':=hm2
 obtain ⟨A2,rfl,ro,rn,rc,rfl,-⟩:=hm2'
 have HM2:=HidS.mk hm2
 have H:=HidS.mk (H.out.below hb2)
 have HO:=HidS.mk (HO.out.below hb2)
 clear hm2 hP hG HROW HBD HLF
 go_upto_region 5 with (fail)
 refine wp_world ?_
 intro W3 hW3
 obtain ⟨hB3,T3,hs3⟩:=world1 hW3
 clear hW3
 have hBA:=nx (nx hb1 hb2) hB3
 have HM2:=HidS.mk (HM2.out.below hB3)
 have H:=HidS.mk (H.out.below hB3)
 have HO:=HidS.mk (HO.out.below hB3)
 have HT:=HidS.mk T3
 have hOst : HidS (∃L,ChsO W3 w.heap.size (.slice (some ⟨w.heap.size,0,none⟩) 0 0) L/\L.length = 0/\∀x ∈ L,ValC x/\HomD c k x/\bdC c x = []/\nrm x<=B):=⟨[],HO.out,rfl,fun x hx=>by cases hx⟩
 have hsz : w.heap.size<=W3.heap.size:=(nx hB0 hBA).size
 go_wp2
 go_loopw [5,7] (fun u iv wr=>∃i : Nat,i<=m/\iv = .int .i64 i/\HidS (∃L,ChsO wr w.heap.size u L/\L.length = i/\∀x ∈ L,ValC x/\HomD c k x/\bdC c x = []/\nrm x<=B)/\HidS (MatV wr (.agg #[.int .i64 m,.int .i64 R,.slice ro rn rc]) m R (genM m R G)/\Blk wr w2.heap.size 41 #[.int .i64 m,.int .i64 R,.slice ro rn rc])/\Below w.heap.size w wr) (fun _ iv _=>m - (intOf iv).toNat)
 case atStart=>exact ⟨0,by omega,rfl,hOst,⟨HM2.out,T3⟩,nx hB0 hBA⟩
 case round=>
  clear hOst hBA HO H HM2 HT T3 hsz
  obtain ⟨i,hi,rfl,hL,hK,hB⟩:=hrel
  obtain ⟨L,hO,hlen,hLP⟩:=hL.out
  obtain ⟨uo,uc,rfl⟩:=LsO.shape hO
  obtain ⟨um,hum⟩ : ∃q,L.length = q:=⟨_,rfl⟩
  rw [hum] at hO ⊢
  have HUM:=HidS.mk hum
  clear hum
  have HO:=HidS.mk hO
  have HLP:=HidS.mk hLP
  have HLN:=HidS.mk hlen
  obtain ⟨c1,c2,c3,c4,c5,c6⟩:=hK.out.2.three
  clear hO hLP hL hlen
  by_cases hlt : i < m
  ·obtain ⟨A2',ea,hrw⟩:=hK.out.1
   injection ea with ea
   injection ea with ea
   have ea3 : Value.slice ro rn rc = A2':=by simpa using ea
   subst ea3
   obtain ⟨b,ra,rn',rc',zs,eo,hbb,hz,g1,hvec⟩:=hrw.row (k:=i) (by simp [genM]; exact hlt)
   subst eo
   have hzs : zs = genV R (G i):=by
    rw [genM_row m R G hlt] at hz
    injection hz with hz
    exact hz.symm
   subst hzs
   have hrl:=hrw.len
   simp only [genM,List.length_map,List.length_range] at hrl
   have hirn : i < rn:=by omega
   have HVEC:=HidS.mk hvec
   clear hvec hrw ea hz hrl
   go_wp2_with fail
   refine (HOF.out _ _ (genV R (G i)) wr (H0.out.below hB) HVEC.out (by simp [genV]) (HG.out i hlt).2.2.2.2).mono ?_
   rintro e5 w5 ⟨u5,rfl,h5,hb5⟩
   obtain ⟨fo,fc,rfl,-,-⟩:=id h5.shape
   obtain ⟨fl,hfl⟩ : ∃q,(ofC I (genV R (G i))).length = q:=⟨_,rfl⟩
   rw [hfl] at h5 ⊢
   have hB5:=nx hB hb5
   have hal:=(Below.refl w5.heap.size w5).alloc (Nat.le_refl _) (.cells #[.slice fo fl fc] tCh)
   have hK5 : HidS (MatV (w5.alloc (.cells #[.slice fo fl fc] tCh)) (.agg #[.int .i64 m,.int .i64 R,.slice (some ⟨b,0,none⟩) rn rc]) m R (genM m R G)/\Blk (w5.alloc (.cells #[.slice fo fl fc] tCh)) w2.heap.size 41 #[.int .i64 m,.int .i64 R,.slice (some ⟨b,0,none⟩) rn rc]):=⟨(hK.out.1.below hb5).below hal,(hK.out.2.below hb5).below hal⟩
   have HO5:=HidS.mk ((HO.out.below hb5).below hal)
   have H5:=HidS.mk (ChsV.one (Blk.new w5 tCh #[.slice fo fl fc]) (h5.below hal))
   have hsz5:=hB5.size
   clear h5 hfl c1 c2 c3 c4 c5 c6 g1 hK
   go_wp2_with (at_builtin; go_loud (refine appCh rfl _ _ rfl w.heap.size _ L rfl HO5.out _ [ofC I (genV R (G i))] rfl H5.out (by rw [HLN.out]; simp; omega) (by simp; omega) ?_; intro v8 w8 hown8 hgr8 hte8; obtain ⟨o8,m8,q8,rfl⟩ : ∃o m q,v8 = .slice o m q:=(LsO.shape hown8).elim fun o h=>h.elim fun q h=>⟨o,_,q,h⟩))
   have hB8 : Below w.heap.size w w8:=(hB5.alloc hB5.size _).grown hgr8 (by simp; omega) (fun g hg=>by have:=HO5.out.own g hg; omega)
   have hK8 : HidS (MatV w8 (.agg #[.int .i64 m,.int .i64 R,.slice (some ⟨b,0,none⟩) rn rc]) m R (genM m R G)/\Blk w8 w2.heap.size 41 #[.int .i64 m,.int .i64 R,.slice (some ⟨b,0,none⟩) rn rc]):=⟨hK5.out.1.te (HO5.out.tg dE hgr8),(HO5.out.tg (ts:=[41]) dE hgr8) _ _ _ _ sI hK5.out.2⟩
   have hL8 : HidS (∃L,ChsO w8 w.heap.size (.slice o8 m8 q8) L/\L.length = i + 1/\∀x ∈ L,ValC x/\HomD c k x/\bdC c x = []/\nrm x<=B):=⟨_,hown8,by rw [List.length_append,HLN.out]; rfl,fun x hx=>by
    rcases List.mem_append.1 hx with hx | hx
    ·exact HLP.out x hx
    ·rw [List.mem_singleton.1 hx]
     obtain ⟨g1,g2,g3,g4,-⟩:=HG.out i hlt
     exact ⟨g1,g2,g3,g4⟩⟩
   clear hown8 hte8 hgr8
   go_roundw
   case rel=>exact ⟨i + 1,by omega,by simp,hL8,hK8,hB8⟩
   case measure=>simp [intOf]; omega
  ·obtain rfl : m = i:=by omega
   go_wp2
   go_ret
   exact ⟨_,L,rfl,HO.out.vs,⟨by rw [HLN.out]; exact hm7,HLP.out⟩,hB⟩
theorem kbn_two (e : Nat) : 63 * kbn (2 ^ e)<=2 ^ (49 * e + 171):=by
 unfold kbn
 have h0 : ∀z : Nat,64 * (7 * (5040 * z)) = 2257920 * z:=fun z=>by omega
 rw [h0,Nat.mul_pow,<-Nat.pow_mul,<-Nat.pow_mul,show e * (7 * 7) = 49 * e by omega,Nat.pow_add,Nat.mul_comm (2 ^ (49 * e)),<-Nat.mul_assoc,<-Nat.mul_assoc]
 exact Nat.mul_le_mul_right _ dE
theorem coef_le {x : Ch} {B : Nat} (hv : ValC x) (h : ∀p ∈ x,p.2.natAbs<=B) (j : Int) : (coef x j).natAbs<=B:=by
 by_cases hj : ∃p ∈ x,p.1 = j
 ·obtain ⟨p,hp,rfl⟩:=hj
  rw [hv.coef hp]
  exact h p hp
 ·rw [coef_none fun f hf e=>hj ⟨f,hf,e⟩]
  exact Nat.zero_le _
theorem CxI.leM {t : Nat} {c : Cx} (h : CxI t c) (k : Int) (hk : 0<=k) : Go.Proofs.YtjdemlfceaikgaaGreat.leM (2 ^ eb k.toNat) (cellsC c k).length (cellsC c (k - 1)).length (ent (bdLs c k)):=fun a ha b hb=>by
 rw [ent_bdLs ha hb]
 unfold bdM
 have h1 : (cellsC c k).getD a 0 ∈ cellsC c k:=by
  rw [List.getD_eq_getElem?_getD,List.getElem?_eq_getElem ha]
  exact List.getElem_mem ha
 obtain ⟨f,h2,h3,h4⟩:=cellsC_mem.1 h1
 rw [<-h3,bOf_at h.val h2]
 have:=h.bnd f h2
 rw [h4] at this
 exact coef_le (h.val.val f h2) this _
theorem rise_len {n : Nat} : ∀{c : Cx} {x : Ch},c.length<=n->(c.Pairwise fun a b=>a.1 < b.1)->(x.Pairwise fun a b=>a.1 < b.1)->(∀f ∈ x,∃q ∈ c,q.1 = f.1)->x.length<=c.length:=by
 induction n with
 | zero=>
  intro c x hc _ _ hx
  have : c = []:=List.eq_nil_of_length_eq_zero oM
  subst this
  cases x with
  | nil=>simp
  | cons f x=>obtain ⟨q,hq,-⟩:=hx f List.mem_cons_self; cases hq
 | succ n ih=>
  intro c x hc hs hr hx
  cases c with
  | nil=>
   cases x with
   | nil=>simp
   | cons f x=>obtain ⟨q,hq,-⟩:=hx f List.mem_cons_self; cases hq
  | cons p c=>
   obtain ⟨s1,s2⟩:=List.pairwise_cons.1 hs
   simp only [List.length_cons] at hc ⊢
   cases x with
   | nil=>simp
   | cons f x=>
    obtain ⟨r1,r2⟩:=List.pairwise_cons.1 hr
    simp only [List.length_cons]
    have hrest : ∀g ∈ x,∃q ∈ c,q.1 = g.1:=fun g hg=>by
     obtain ⟨q,hq,e⟩:=hx g (List.mem_cons_of_mem _ hg)
     rcases List.mem_cons.1 hq with e2 | hq
     ·obtain ⟨q2,hq2,e3⟩:=hx f List.mem_cons_self
      have h4:=r1 g hg
      rcases List.mem_cons.1 hq2 with e4 | hq2
      ·rw [e4] at e3; rw [e2] at e; omega
      ·have:=s1 q2 hq2
       rw [e2] at e
       omega
     ·exact ⟨q,hq,e⟩
    have:=ih oM s2 r2 hrest
    omega
theorem HomD.length {c : Cx} {x : Ch} {d : Int} (h : HomD c d x) (hv : ValX c) (hx : ValC x) : x.length<=c.length:=
 rise_len (Nat.le_refl _) hv.srt hx.srt fun f hf=>by
  obtain ⟨q,h1,-⟩:=h f hf
  exact ⟨q,(findC_mem h1).1,(findC_mem h1).2⟩
theorem CxI.lens {t : Nat} {c : Cx} (h : CxI t c) (f : Cel) (hf : f ∈ c) : f.2.2.length<=7 + t:=Nat.le_trans (((h.val.face f hf).1).length h.val (h.val.val f hf)) h.len
set_option maxHeartbeats 4000000 in
set_option maxRecDepth 20000 in
theorem cycles_neg (v : Value) (c : Cx) (k : Int) (w : World) (h : CpxV w v c) (hk : k < 0) :
  Calls Tryz.prog 79 #[v,.int .i64 k] w fun e' w'=>∃u,e' = .returned u/\ChsV w' u []/\Below w.heap.size w w':=by
 obtain ⟨ao,ac,rfl,-,hc1⟩:=id h.shape
 clear h
 go_enter Tryz.func79,Tryz.ntmps79
 go_wp2
 go_ret
 exact ⟨_,rfl,LsV.nil _ _ _ _ (Nat.zero_le _),(Below.refl _ _).alloc (Nat.le_refl _) _⟩
def cbn (k : Int) : Nat:=7 * kbn (2 ^ eb k.toNat)
theorem cyclesI {t : Nat} (v : Value) (c : Cx) (k : Int) (w : World) (h : CpxV w v c) (hI : CxI t c) (ht : t<=4) (hk : -1000<=k/\k<=3) :
  Calls Tryz.prog 79 #[v,.int .i64 k] w fun e' w'=>∃u L,e' = .returned u/\ChsV w' u L/\CycP c k (cbn k) L/\(k < 0->L = [])/\Below w.heap.size w w':=by
 by_cases h0 : k < 0
 ·refine (cycles_neg v c k w h h0).mono ?_
  rintro e w' ⟨u,rfl,h1,h2⟩
  exact ⟨u,[],rfl,h1,⟨Nat.zero_le _,fun x hx=>by cases hx⟩,fun _=>rfl,h2⟩
 ·refine (cycles_any (e:=eb k.toNat) v c k w h hI.val (by have:=hI.len; omega) (fun f hf=>by have:=hI.lens f hf; omega) ⟨by omega,by omega⟩ ?_ (hI.leM k oM) ?_).mono ?_
  ·rcases (by omega : k = 0 ∨ k = 1 ∨ k = 2 ∨ k = 3) with rfl | rfl | rfl | rfl
   ·exact .inl ⟨by have:=hI.n0; omega,by decide⟩
   ·exact .inl ⟨by have:=hI.n1; omega,by decide⟩
   ·exact .inl ⟨by have:=hI.n2; omega,by decide⟩
   ·exact .inr ⟨by have:=hI.n3; omega,by decide⟩
  ·have h1:=kbn_two (eb k.toNat)
   have h2 : eb k.toNat<=1000000:=by
    rcases (by omega : k = 0 ∨ k = 1 ∨ k = 2 ∨ k = 3) with rfl | rfl | rfl | rfl <;> decide
   have h3 : 2 ^ (49 * eb k.toNat + 171) < 2 ^ (49 * eb k.toNat + 172):=Nat.pow_lt_pow_right oM oM
   exact two_pow_lim (e:=49 * eb k.toNat + 172) oM (by unfold LIM; omega)
  ·rintro e w' ⟨u,L,rfl,h1,h2,h3⟩
   exact ⟨u,L,rfl,h1,h2,fun h=>absurd h h0,h3⟩
end Go.Proofs.YtjdemlfceaikgaaGreat
