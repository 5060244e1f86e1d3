/- torsionlaw13.SmithUnique: whatever the input, it returns true, and the input reads as it did. No conditions. -/
import Derived.Test.YtnocgagoaldfnaaGreatRows
import Derived.Test.YtnocgagoaldfnaaGreatD49
import Derived.Test.YtnocgagoaldfnaaGreatW03
import Derived.Test.YtnocgagoaldfnaaGreatW04
set_option linter.unusedVariables false
set_option linter.unusedSimpArgs false
set_option linter.unusedSectionVars false
namespace Go.Proofs.YtnocgagoaldfnaaGreat
open Go.RowKit
theorem min_swap (R C : Nat) : min C R = min R C:=Nat.min_comm _ _
theorem Dg.tr {R C r : Nat} {F : Nat->Nat->Int} (h : Dg R C r F) : Dg C R r (trF F):=
 ⟨fun a ha b hb hab=>h.off b hb a ha (Ne.symm hab),h.pos,fun i h1 h2=>h.zero i h1 oM,by have:=h.le; omega⟩
theorem Inv.tr {R C r : Nat} {A F : Nat->Nat->Int} (h : Inv R C r A F) : Inv C R r (trF A) (trF F):=
 ⟨h.dg.tr,fun a b h1 h2 h3=>h.chn a b h1 h2 oM,h.fwd.tr,h.bwd.tr⟩
theorem Inv.congr {R C r : Nat} {A B F : Nat->Nat->Int} (h : Inv R C r A F) (e : ∀a,a < R->∀b,b < C->B a b = A a b) : Inv R C r B F:=
 ⟨h.dg,h.chn,(Fac.congr (Fac.refl R C B) fun a ha b hb=>(e a ha b hb).symm).trans h.fwd,h.bwd.congr e⟩
theorem Inv.list_eq {R C r r' : Nat} {A B F G : Nat->Nat->Int} (hF : Inv R C r A F) (hG : Inv R C r' B G) (h1 : Fac R C A B) (h2 : Fac R C B A) : genV r' (fun i=>G i i) = genV r (fun i=>F i i):=by
 obtain ⟨e1,e2⟩:=hF.unique_fac hG h1 h2
 subst e1
 exact genV_congr fun i hi=>(e2 i (by have:=hF.dg.le; omega)).symm
theorem Fac.toEnt {R C : Nat} {F G : Nat->Nat->Int} (h : Fac R C F G) : Fac R C F (ent (genM R C G)):=h.congr fun a ha b hb=>ent_genM ha hb
theorem Fac.ofEnt {R C : Nat} {F G : Nat->Nat->Int} (h : Fac R C G F) : Fac R C (ent (genM R C G)) F:=(Fac.congr (Fac.refl R C _) fun a ha b hb=>(ent_genM ha hb).symm).trans h
set_option maxHeartbeats 8000000 in
set_option maxRecDepth 20000 in
theorem smithUnique_any (v lv : Value) (r c : Nat) (ls : List Int) (st : List (Nat × Nat × Nat × Int)) (w : World) (h : I8V w v ls) (hst : StV w lv st) (hr : r<=255) (hc : c<=255) :
  Calls Tryz.prog 7 #[.agg #[.int .u8 r,.int .u8 c,v],lv] w fun e w'=>e = .returned (.bool true)/\Below w.heap.size w w':=by
 obtain ⟨ao,n,cap,rfl,-,-,-,-,-⟩:=id h
 obtain ⟨so,sn,sc,rfl,-,-,-,-,-⟩:=id hst
 obtain ⟨R,hR⟩ : ∃R : Nat,R = r % 5:=⟨_,rfl⟩
 obtain ⟨C,hC⟩ : ∃C : Nat,C = c % 5:=⟨_,rfl⟩
 have hR4 : R<=4:=by omega
 have hC4 : C<=4:=by omega
 have HR:=Lib.hid hR
 have HC:=Lib.hid hC
 clear hR hC
 obtain ⟨M,hM⟩ : ∃M,genM R C (digF C ls) = M:=⟨_,rfl⟩
 have HMade : HidS (∀w,I8V w (.slice ao n cap) ls->Calls Tryz.prog 13 #[.agg #[.int .u8 r,.int .u8 c,.slice ao n cap]] w fun e w'=>∃v,e = .returned v/\MatV w' v R C M/\Below w.heap.size w w'):=⟨fun w h=>by
  rw [<-hM]
  exact madeM _ r c ls w h hr hc R C HR.out HC.out⟩
 have HF : HidS (Fits R C M):=⟨by rw [<-hM]; exact genM_fits _ _ _⟩
 have HA9 : HidS (leM 9 R C (ent M)):=⟨by rw [<-hM]; exact ent_leM (digF_leM R C C ls)⟩
 have HA : HidS (leM 1048576 R C (ent M)):=⟨HA9.out.mono oM⟩
 clear hM
 go_enter Tryz.func7,Tryz.ntmps7
 go_upto_region 1 with (fail)
 refine wp_world ?_
 intro W0 hW0
 obtain ⟨hB0,bx,hs0⟩:=world1 hW0
 clear hW0
 go_wp2_with fail
 refine (sanity_any W0).mono ?_
 rintro e w1 ⟨rfl,hb1⟩
 have hB:=nx hB0 hb1
 have bx:=bx.below hb1
 obtain ⟨c1,c2,c3,c4,c5,c6⟩:=bx.three
 go_wp2_with fail
 refine (HMade.out w1 (h.below hB)).mono ?_
 rintro e w2 ⟨va,rfl,hm,hb2⟩
 obtain ⟨A,rfl,hrv⟩:=id hm
 obtain ⟨ro,rn,rc,rfl,-⟩:=id hrv
 have hB:=nx hB hb2
 clear c1 c2 c3 c4 c5 c6 hrv bx
 go_upto_region 3 with (fail)
 refine wp_world ?_
 intro W3 hW3
 obtain ⟨hB3,T6,hs3⟩:=world1 hW3
 have HM:=HidS.mk (hm.below hB3)
 have hB:=nx hB hB3
 clear hW3 hm
 obtain ⟨c1,c2,c3,c4,c5,c6⟩:=T6.three
 go_wp2_with fail
 refine (inv_all _ M R C W3 HM.out HF.out hR4 hC4 HA.out).mono ?_
 rintro e w4 ⟨fv,F,rr,rfl,hinv,hvo,hb4⟩
 have HI:=HidS.mk hinv
 obtain ⟨LL,hLL⟩ : ∃LL,genV rr (fun i=>F i i) = LL:=⟨_,rfl⟩
 rw [hLL] at hvo
 have HLL:=HidS.mk hLL
 have HV:=HidS.mk hvo.vec
 obtain ⟨mo,mk,rfl⟩:=hvo.shape
 have hB:=nx hB hb4
 have T6:=T6.below hb4
 have HM:=HidS.mk (HM.out.below hb4)
 clear c1 c2 c3 c4 c5 c6 hinv hvo hLL
 obtain ⟨c1,c2,c3,c4,c5,c6⟩:=T6.three
 go_wp2_with fail
 refine (changed_any _ _ R C 5 M st 9 w4 HM.out HF.out oM oM (hst.below hB) oM dE HA9.out).mono ?_
 rintro e w5 ⟨va,bs,G,rfl,hmo,hb5,hch⟩
 have HV:=HidS.mk (HV.out.below hb5)
 have hmv:=hmo.mat
 obtain ⟨-,A,rfl,hro⟩:=hmo
 obtain ⟨oo,on,oc,rfl,-⟩:=id hro.rows
 have hB:=nx hB hb5
 have T6:=T6.below hb5
 have HM:=HidS.mk (HM.out.below hb5)
 have HMV:=HidS.mk hmv
 have HCH:=HidS.mk hch
 clear c1 c2 c3 c4 c5 c6 hmv hro hch
 go_wp2_with fail
 refine (invL _ _ R C LL w5 HMV.out.1 HMV.out.2 hR4 hC4 (ent_leM (HCH.out.le.mono dE)) (fun r' F' hI'=>by
  rw [<-HLL.out]
  exact HI.out.list_eq hI' HCH.out.to_.toEnt HCH.out.back.ofEnt)).mono ?_
 rintro e w6 ⟨v6,rfl,hv6,hb6⟩
 have HV:=HidS.mk (HV.out.below hb6)
 obtain ⟨po,pn,pc,rfl,-⟩:=id hv6
 have HV6:=HidS.mk hv6
 have hB:=nx hB hb6
 have T6:=T6.below hb6
 have HM:=HidS.mk (HM.out.below hb6)
 clear hv6 HMV HCH
 go_wp2_with fail
 refine (r13sameT _ _ LL w6 HV6.out HV.out).mono ?_
 rintro e w7 ⟨rfl,hb7⟩
 have HV:=HidS.mk (HV.out.below hb7)
 have hB:=nx hB hb7
 have T6:=T6.below hb7
 have HM:=HidS.mk (HM.out.below hb7)
 clear HV6
 obtain ⟨c1,c2,c3,c4,c5,c6⟩:=T6.three
 go_wp2_with fail
 refine (r5transpose_any _ R C M w7 HM.out HF.out oM oM).mono ?_
 rintro e w8 ⟨va,bs,rfl,hmo,hb8⟩
 have HV:=HidS.mk (HV.out.below hb8)
 have hmv:=hmo.mat
 obtain ⟨-,A,rfl,hro⟩:=hmo
 obtain ⟨oo,on,oc,rfl,-⟩:=id hro.rows
 have hB:=nx hB hb8
 have HMV:=HidS.mk hmv
 clear c1 c2 c3 c4 c5 c6 hmv hro
 go_wp2_with fail
 refine (invL _ _ C R LL w8 HMV.out.1 HMV.out.2 hC4 hR4 (ent_leM fun a ha b hb=>HA.out b hb a ha) (fun r' F' hI'=>by
  rw [<-HLL.out]
  have hft : Fac C R (trF (ent M)) (fun a b=>ent M b a):=Fac.refl _ _ _
  exact HI.out.tr.list_eq hI' hft.toEnt hft.ofEnt)).mono ?_
 rintro e w9 ⟨v9,rfl,hv9,hb9⟩
 have HV:=HidS.mk (HV.out.below hb9)
 obtain ⟨po,pn,pc,rfl,-⟩:=id hv9
 have HV9:=HidS.mk hv9
 have hB:=nx hB hb9
 clear hv9 HMV
 go_wp2_with fail
 refine (r13sameT _ _ LL w9 HV9.out HV.out).mono ?_
 rintro e wa ⟨rfl,hba⟩
 have hB:=nx hB hba
 go_wp2
 go_ret
 exact ⟨rfl,hB⟩
end Go.Proofs.YtnocgagoaldfnaaGreat

namespace Go.Proofs.YtnocgagoaldfnaaGreat
open Go.ChangeShapes Go.WideShapes Go.ChangeAt Go.RowKit
set_option maxRecDepth 100000 in
theorem open_step {H : Type} {enc : TypeId × Value->H} {w : World} {f : Nat} {cs : List Value} {y : DataW H × List MemPlace} (hf : DataW.trod enc Tryz.prog w 0 (fun _=>true) true f 105 cs = some y) :
  ∃p q r : Nat,∃z : Int,cs = [.int .u8 p,.int .u8 q,.int .u8 r,.int .i8 z]/\p<=255/\q<=255/\r<=255/\-128<=z/\z<=127:=by
 obtain ⟨xs,m,h0,h1,h2,h3,h4⟩:=DataW.trod_struct Tryz.underlying105 hf
 have c105 : Tryz.prog.cellsOf 105 = 4:=by kernel_rfl
 have c41 : Tryz.prog.cellsOf 41 = 1:=by kernel_rfl
 have g0 : DataW.trod enc Tryz.prog w 0 (fun _=>true) true m 5 (List.take (Tryz.prog.cellsOf 5) (List.drop 0 cs)) = xs[0]?:=h4 0 _ rfl
 have g1 : DataW.trod enc Tryz.prog w 0 (fun _=>true) true m 5 (List.take (Tryz.prog.cellsOf 5) (List.drop 1 cs)) = xs[1]?:=h4 1 _ rfl
 have g2 : DataW.trod enc Tryz.prog w 0 (fun _=>true) true m 5 (List.take (Tryz.prog.cellsOf 5) (List.drop 2 cs)) = xs[2]?:=h4 2 _ rfl
 have g3 : DataW.trod enc Tryz.prog w 0 (fun _=>true) true m 41 (List.take (Tryz.prog.cellsOf 41) (List.drop 3 cs)) = xs[3]?:=h4 3 _ rfl
 rw [c105] at h2
 rw [cells5] at g0 g1 g2
 rw [c41] at g3
 match xs,h3 with
 | [y0,y1,y2,y3],_=>
  match cs,h2 with
  | [k0,k1,k2,k3],_=>
   simp at g0 g1 g2 g3
   obtain ⟨a,ha,-,wa⟩:=DataW.trod_int Tryz.underlying5 g0
   obtain ⟨b,hb,-,wb⟩:=DataW.trod_int Tryz.underlying5 g1
   obtain ⟨c,hc,-,wc⟩:=DataW.trod_int Tryz.underlying5 g2
   obtain ⟨d,hd,-,wd⟩:=DataW.trod_int Tryz.underlying41 g3
   simp at ha hb hc hd
   subst ha
   subst hb
   subst hc
   subst hd
   have wa:=bounds_u8 wa
   have wb:=bounds_u8 wb
   have wc:=bounds_u8 wc
   have wd:=bounds_i8 wd
   exact ⟨a.toNat,b.toNat,c.toNat,d,by rw [Int.toNat_of_nonneg wa.1,Int.toNat_of_nonneg wb.1,Int.toNat_of_nonneg wc.1],by omega,by omega,by omega,wd.1,wd.2⟩
set_option maxRecDepth 100000 in
theorem open_steps {H : Type} {enc : TypeId × Value->H} {w : World} {b0 : Nat} {r : Reach} {v : Value} {d : DataW H} {ps : List MemPlace} (hval : Value.okWide Tryz.prog w r b0 55 v)
  (h : DataW.Trod enc Tryz.prog w 0 (fun _=>true) true 55 v d ps) (hlt : ∀x ∈ ps,x.block < w.heap.size) : ∃ls,StV w v ls:=by
 obtain ⟨a0,len,cap,rfl⟩:=okWide_slice Tryz.underlying55 hval
 obtain ⟨fuel,hf⟩:=h
 have c105 : Tryz.prog.cellsOf 105 = 4:=by kernel_rfl
 rcases DataW.trod_slice Tryz.underlying55 hf with ⟨e1,-⟩ | ⟨a,len',cap',elems,rest,n,-,e1,e2,-,hl,hm,hlen,hel,-,-⟩
 ·simp [Value.cells] at e1
  obtain ⟨rfl,rfl,rfl⟩:=e1
  exact ⟨[],none,0,0,rfl,rfl,Nat.le_refl _,by omega,fun z hz=>(by cases hz),fun h=>absurd rfl h⟩
 ·simp [Value.cells] at e1
  obtain ⟨rfl,rfl,rfl⟩:=e1
  unfold maxLen at hm
  rw [c105] at hel e2
  have each : ∀i,i < len->∃s : Nat × Nat × Nat × Int,(s.1<=255/\s.2.1<=255/\s.2.2.1<=255/\-128<=s.2.2.2/\s.2.2.2<=127)/\w.cell? ((a.add (i * 4)).add 0) = some (.int .u8 s.1)/\w.cell? ((a.add (i * 4)).add 1) = some (.int .u8 s.2.1)/\w.cell? ((a.add (i * 4)).add 2) = some (.int .u8 s.2.2.1)/\w.cell? ((a.add (i * 4)).add 3) = some (.int .i8 s.2.2.2):=by
   intro i hi
   have h1:=hel i hi
   rw [List.getElem?_eq_getElem oM,Option.bind_eq_some_iff] at h1
   obtain ⟨cs,hcs,hy⟩:=h1
   obtain ⟨p,q,r,z,rfl,g1,g2,g3,g4,g5⟩:=open_step hy
   unfold World.cells? at hcs
   rw [if_pos (Nat.zero_le _)] at hcs
   refine ⟨(p,q,r,z),⟨g1,g2,g3,g4,g5⟩,?_,?_,?_,?_⟩
   ·simpa using mapM_some_get hcs 0 0 sI
   ·simpa using mapM_some_get hcs 1 1 sI
   ·simpa using mapM_some_get hcs 2 2 sI
   ·simpa using mapM_some_get hcs 3 3 sI
  obtain ⟨f,hf'⟩ : ∃f : Nat->Nat × Nat × Nat × Int,∀i,i < len->((f i).1<=255/\(f i).2.1<=255/\(f i).2.2.1<=255/\-128<=(f i).2.2.2/\(f i).2.2.2<=127)/\w.cell? ((a.add (i * 4)).add 0) = some (.int .u8 (f i).1)/\w.cell? ((a.add (i * 4)).add 1) = some (.int .u8 (f i).2.1)/\w.cell? ((a.add (i * 4)).add 2) = some (.int .u8 (f i).2.2.1)/\w.cell? ((a.add (i * 4)).add 3) = some (.int .i8 (f i).2.2.2):=by
   refine ⟨fun i=>if h : i < len then (each i h).choose else (0,0,0,0),fun i hi=>?_⟩
   simp only [dif_pos hi]
   exact (each i hi).choose_spec
  refine ⟨(List.range len).map f,some a,len,cap,rfl,by simp,hl,by omega,fun s hs=>?_,fun hne=>?_⟩
  ·obtain ⟨i,hi,rfl⟩:=List.mem_map.1 hs
   exact (hf' i (List.mem_range.1 hi)).1
  ·have hpos : 0 < len:=by
    rcases Nat.eq_zero_or_pos len with h0 | h0
    ·rw [h0] at hne; exact absurd rfl hne
    ·exact h0
   obtain ⟨b,off,spot⟩:=a
   have hspot : spot = none:=by simpa [Addr.add] using World.cell?_spot (hf' 0 hpos).2.1
   subst hspot
   refine ⟨b,off,rfl,?_,fun k s hk=>?_⟩
   ·refine hlt (.cell b off) ?_
    simp only [Prod.mk.injEq] at e2
    rw [e2.2]
    exact List.mem_append_left _ (MemPlace.mem_row.2 ⟨0,by omega,rfl⟩)
   ·obtain ⟨h1,h2⟩:=List.getElem?_eq_some_iff.1 hk
    simp at h1 h2
    subst h2
    obtain ⟨-,g1,g2,g3,g4⟩:=hf' k h1
    rw [Go.WideShapes.add_plain,Go.WideShapes.add_plain] at g1 g2 g3 g4
    exact ⟨g1,g2,g3,g4⟩
set_option maxRecDepth 100000 in
theorem smithUnique_lifted (os : Os) (started : os.Started) (H : Type) (enc : TypeId × Value->H) :
  ReturnsInHanded {} Tryz.checked os 7 .any (Rows.smithUniqueSpec.pre6 enc Tryz.prog Tryz.f7 Rows.smithUniqueRow.domain false) (Rows.smithUniqueSpec.post enc Tryz.prog Tryz.f7 false true false false):=by
 refine returnsInHanded_of_change (C:=Tryz.checked) Tryz.own started kR Tryz.func7
  (ChangeSpec.witness6 (enc:=enc) (C:=Tryz.checked) false ⟨#[],#[.agg #[.int .u8 0,.int .u8 0,.slice none 0 0],.slice none 0 0],[]⟩ 8 kR kR kR kR) ?_
 intro W base args ds gs before hval0 hW hcnd _
 have hval : ∀(j : Nat) t v,Tryz.f7.params[j]? = some t->args[j]? = some v->Value.okWide Tryz.prog W .any base t v:=hval0
 have hW':=hW
 obtain ⟨p,q,hA0,hV,rfl,hfz,hnd⟩:=hW
 have hA : DataW.TrodAll enc Tryz.prog W 0 (fun _=>true) true Tryz.f7.params.toList args.toList ds p:=hA0
 rw [Tryz.params7] at hA hval
 obtain ⟨v0,v1,d0,d1,p0,p1,rfl,rfl,rfl,h0,h1⟩:=trodAll_two hA
 obtain ⟨rfl,rfl⟩:=trodVars_none hV
 clear hA0 hval0
 simp only [List.append_nil] at hW'
 have hlt0 : ∀x ∈ p0,x.block < W.heap.size:=fun x hx=>hW'.lt x (by simp [hx])
 have hlt1 : ∀x ∈ p1,x.block < W.heap.size:=fun x hx=>hW'.lt x (by simp [hx])
 obtain ⟨a,b,sv,ls,rfl,ha,hb,hI⟩:=open_raw (hval 0 24 v0 rfl rfl) h0 hlt0
 obtain ⟨st,hS⟩:=open_steps (hval 1 55 v1 rfl rfl) h1 hlt1
 refine (smithUnique_any sv v1 a b ls st W hI hS ha hb).mono fun e W' ⟨he,hB⟩=>?_
 subst he
 refine ⟨_,rfl,_,_,_,[],p0 ++ p1,[],hW',?_,?_,rfl,hB.frame _,fun h=>by cases h⟩
 ·exact trodAll_mk1 (shut_bool Tryz.underlying4 true)
 ·exact trodAll_mk2 (Below.trod Tryz.laidOut kR (of_decide_eq_true kR) h0 hB hlt0) (Below.trod Tryz.laidOut kR (of_decide_eq_true kR) h1 hB hlt1)
theorem smithUnique_holds : Rows.SmithUniqueSaid:=
 OpenClaim.holds_of_wide 7 Tryz.f7 rfl rfl rfl rfl rfl rfl rfl ⟨rfl,rfl,rfl,rfl,rfl⟩ rfl rfl rfl rfl rfl kR Tryz.func7 kR
  (of_decide_eq_true kR) (by unfold Func.isWrapper; first | (rw [if_pos (by decide +kernel)]; kernel_rfl) | (rw [if_neg (by decide +kernel)]; exact ⟨rfl,rfl⟩))
  (fun os started H enc _=>smithUnique_lifted os started H enc)
end Go.Proofs.YtnocgagoaldfnaaGreat
