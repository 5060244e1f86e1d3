/- torsionref25.Boundary: the boundary matrix. torsionref26.Chain, Of, Dim. torsionref26.Boundary, Edge, Cycle. torsionref26.Cell: a cell with a boundary that is given by IDs and coefficients in turn. The law for regions that draw, where one operation (an append) may write into blocks S that nothing else reads. torsionref13.Check where everything holds. -/
import Derived.Test.YtjdemlfceaikgaaGreatK08
import Derived.Test.YtjdemlfceaikgaaGreatK10
import Derived.Test.YtjdemlfceaikgaaGreatK11
set_option linter.unusedVariables false
set_option linter.unusedSimpArgs false
set_option linter.unusedSectionVars false
namespace Go.Proofs.YtjdemlfceaikgaaGreat
open Go.RowKit
theorem VecV.te {ts : List TypeId} {w w' : World} {v : Value} {zs : List Int} (h : VecV w v zs) (ht : TE ts w w') (h1 : tI ∈ ts) (h2 : tU ∈ ts) : VecV w' v zs:=by
 obtain ⟨ao,n,cap,e1,e2,e3,e4,e5⟩:=h
 refine ⟨ao,n,cap,e1,e2,e3,e4,fun hn=>?_⟩
 obtain ⟨b,f1,hr⟩:=e5 hn
 obtain ⟨cs,g1,-⟩:=id hr
 exact ⟨b,f1,hr.old ((ht _ _ _ _ h1 g1).trans g1.symm) (ht.lext h2)⟩
abbrev tRw : TypeId:=116
theorem Tryz.infoRw : (Tryz.prog.info? tRw).map (fun i=>(i.zero,i.size,i.bytes)) = some (some (.slice none 0 0),1,24):=by kernel_rfl
def rowE : El (List Int) where
 T:=tRw
 k:=1
 ts:=[tI,tU]
 E:=fun w vs x=>∃v,vs = [v]/\VecV w v x
 pos:=by decide
 nt:=by decide
 len:=by rintro w vs x ⟨v,rfl,-⟩; rfl
 one:=by
  rintro w vs x ⟨v,rfl,ao,n,cap,rfl,-⟩ u hu
  rw [List.mem_singleton.1 hu]
  rfl
 st:=by
  rintro w w' vs x ht ⟨v,rfl,h⟩
  exact ⟨v,rfl,h.te ht sI sI⟩
abbrev RwV:=LsV rowE
abbrev RwO:=LsO rowE
theorem LsV.rows {w : World} {v : Value} {M : List (List Int)} (h : RwV w v M) : RowsV w v M:=by
 obtain ⟨ao,n,cap,h1,h2,h3,h4,h5⟩:=h
 refine ⟨ao,n,cap,h1,h2,h3,h4,fun hn=>?_⟩
 obtain ⟨b,cs,e1,e2,e3⟩:=h5 hn
 refine ⟨b,cs,e1,e2,fun k zs hk=>?_⟩
 obtain ⟨vs,e4,v,rfl,e5⟩:=e3 k zs hk
 have:=e4 0 v rfl
 rw [show rowE.k = 1 from rfl,Nat.mul_one,Nat.add_zero] at this
 exact ⟨v,this,e5⟩
theorem appRw {w : World} {ops : Array Oper} {rest : List Oper} {o : Oper} {a : Act} {Q : Exit->Act->World->Prop} (hgd : o.guard = none) (s x : Operand)
  (ho : o.op = .call { callee:=.builtin .append,args:=#[s,x],argTypes:=#[39,39] })
  (base : Nat) (v : Value) (xs : List (List Int)) (hs : a.eval s = v) (hown : RwO w base v xs) (yv : Value) (ys : List (List Int)) (hx : a.eval x = yv) (hy : RwV w yv ys) (hlen : xs.length + ys.length<=10000000) (hbase : base<=w.heap.size)
  (h : ∀v' w',RwO w' base v' (xs ++ ys)->w.grownBy w' v.ownBlock->TE [tI,tU] w w'->wpList Tryz.prog ops Q rest (a.put o.dst v') w') : wpList Tryz.prog ops Q (o :: rest) a w:=by
 obtain ⟨i0,hi,hz0,hz1,hz2⟩:=info_parts Tryz.infoRw
 exact wpList_appLs hgd rowE s x 39 ho Tryz.underlying39 hi hz0 hz1 hz2 rfl dE base v xs hs hown yv ys hx hy oM hbase fun v' w' h1 h2 h3=>h v' w' h1 h2 h3
def NewRw (zs : List Int) (w : World) (v : Value) : Prop:=∃b a n c,v = .slice (some ⟨b,0,none⟩) 1 1/\Blk w b tRw #[.slice a n c]/\VecV w (.slice a n c) zs
theorem lastsB_newRw (zs : List Int) : LastsB (NewRw zs):=fun _ _ _ hb ⟨b,a,n,c,h1,h2,h3⟩=>⟨b,a,n,c,h1,h2.below hb,h3.below hb⟩
theorem NewRw.rw {zs : List Int} {w : World} {v : Value} (h : NewRw zs w v) : RwV w v [zs]:=by
 obtain ⟨b,a,n,c,rfl,h1,h2⟩:=h
 exact (LsO.lit (e:=rowE) (xs:=[zs]) h1 (Nat.zero_le _) [[.slice a n c]] rfl rfl (fun i vs x e1 e2=>by
  cases i with
  | zero=>cases e1; cases e2; exact ⟨_,rfl,h2⟩
  | succ i=>simp at e1) (by simp [maxLen])).vs
theorem lastsB_vecV (zs : List Int) : LastsB fun w v=>VecV w v zs:=fun _ _ _ b h=>h.below b
def bdLs (c : Cx) (k : Int) : List (List Int):=(cellsC c k).map fun i=>(cellsC c (k - 1)).map (coef (bOf c i))
set_option maxHeartbeats 8000000 in
set_option maxRecDepth 20000 in
theorem bd25_any (v : Value) (c : Cx) (k : Int) (w : World) (h : CpxV w v c) (hv : ValX c) (hn : c.length<=1000000) (hk : -1000<=k/\k<=1000) (hL : ∀f ∈ c,f.2.2.length<=1000000) :
  Calls Tryz.prog 29 #[v,.int .i64 k] w fun e w'=>∃u,e = .returned u/\MatV w' u (cellsC c k).length (cellsC c (k - 1)).length (bdLs c k)/\Below w.heap.size w w':=by
 obtain ⟨ao,ac,rfl,-,hc1⟩:=id h.shape
 obtain ⟨n,hxn⟩ : ∃n,c.length = n:=⟨_,rfl⟩
 rw [hxn] at h hn ⊢
 have H:=HidS.mk h
 have HXN:=HidS.mk hxn
 obtain ⟨I,hI⟩ : ∃I,cellsC c k = I:=⟨_,rfl⟩
 obtain ⟨J,hJ⟩ : ∃J,cellsC c (k - 1) = J:=⟨_,rfl⟩
 obtain ⟨R,hR⟩ : ∃R,I.length = R:=⟨_,rfl⟩
 obtain ⟨C,hC⟩ : ∃C,J.length = C:=⟨_,rfl⟩
 have hRn : R<=n:=by rw [<-hR,<-hI,<-hxn]; exact cells_len
 have hCn : C<=n:=by rw [<-hC,<-hJ,<-hxn]; exact cells_len
 have HI:=HidS.mk hI
 have HJ:=HidS.mk hJ
 have HR:=HidS.mk hR
 have HC:=HidS.mk hC
 have HV:=HidS.mk hv
 have HL:=HidS.mk hL
 rw [hI,hJ,hR,hC]
 clear h hxn hI hJ hR hC hL hv
 go_enter Tryz.func29,Tryz.ntmps29
 go_upto_region 1 with (fail)
 refine wp_world ?_
 intro W0 hW0
 obtain ⟨hB0,T0,hs0⟩:=world1 hW0
 clear hW0
 have HT0:=HidS.mk T0
 have H:=HidS.mk (H.out.below hB0)
 go_wp2_with fail
 refine (ccells_any _ c k W0 H.out (by rw [HXN.out]; exact hn)).mono ?_
 rintro e w2 ⟨u1,rfl,hI1,hb2⟩
 rw [HI.out] at hI1
 obtain ⟨io,ic,rfl,-,-⟩:=hI1.vs.shape
 rw [HR.out] at hI1
 have hI1:=hI1.vs
 rw [HR.out]
 have H:=HidS.mk (H.out.below hb2)
 go_wp2_with fail
 refine (ccells_any _ c (k - 1) w2 H.out (by rw [HXN.out]; exact hn)).mono ?_
 rintro e w3 ⟨u2,rfl,hJ1,hb3⟩
 rw [HJ.out] at hJ1
 obtain ⟨jo,jc,rfl,-,-⟩:=hJ1.vs.shape
 rw [HC.out] at hJ1
 have hJ1:=hJ1.vs
 rw [HC.out]
 have hI1:=HidS.mk (hI1.below hb3)
 have hJ1:=HidS.mk hJ1
 have H:=HidS.mk (H.out.below hb3)
 have hB3:=nx hb2 hb3
 go_upto_region 3 with (fail)
 refine wp_world ?_
 intro W4 hW4
 obtain ⟨hB4,T4,hs4⟩:=world1 hW4
 clear hW4
 have hB4:=hB4
 have hO : HidS (RwO W4 W4.heap.size (.slice none 0 0) ((bdLs c k).take 0)):=⟨LsO.nil _ _ _⟩
 have hBD : HidS ((bdLs c k).length = R):=⟨by unfold bdLs; rw [List.length_map,HI.out,HR.out]⟩
 go_wp2
 go_loopw [8] (fun iv wr=>∃(i : Nat) (u : Value),i<=R/\iv = .int .i64 i/\Blk wr w3.heap.size 41 #[.int .i64 R,.int .i64 C,u]/\HidS (RwO wr W4.heap.size u ((bdLs c k).take i))/\Below w3.heap.size w3 wr/\W4.heap.size<=wr.heap.size) (fun iv _=>R - (intOf iv).toNat)
 case atStart=>exact ⟨0,_,by omega,rfl,T4,hO,hB4,Nat.le_refl _⟩
 case round=>
  clear hO T4 hB4
  obtain ⟨i,v0,hi,rfl,T4,hO,hB,hW⟩:=hrel
  have hB0r:=hB3.trans (hB.mono (by have:=hB3.size; omega))
  by_cases hlt : i < R
  ·obtain ⟨a,ha⟩:=lt_get HR.out hlt
   obtain ⟨b1,rfl,hb1,g1⟩:=(hI1.out.below hB).int ha
   have HAI:=HidS.mk ha
   have HF : HidS (∃f ∈ c,findC c a = some f/\f.1 = a):=⟨by
    have h1 : a ∈ cellsC c k:=by rw [HI.out]; exact List.mem_of_getElem? ha
    obtain ⟨f,h2,h3,h4⟩:=cellsC_mem.1 h1
    exact ⟨f,h2,by rw [<-h3]; exact findC_srt HV.out.srt h2,h3⟩⟩
   clear ha
   go_wp2_with fail
   refine (cfind_any _ c a wr (H.out.below hB)).mono ?_
   rintro e w5 ⟨_,rfl,⟨_,rfl,o,n',c',rfl,hch⟩,hb5⟩
   have HCH:=HidS.mk (show ChnV w5 (.slice o n' c') (bOf c a) by rw [<-bOf_celD]; exact hch)
   have hB5:=nx hB hb5
   have T4:=T4.below hb5
   have hO:=HidS.mk (hO.out.below hb5)
   clear hch g1
   go_upto_region 7 with (fail)
   refine wp_world ?_
   intro W6 hW6
   obtain ⟨hB6,T9,hs6⟩:=world1 hW6
   clear hW6
   have hB6':=nx hB5 hB6
   have T4:=T4.below hB6
   have hO:=HidS.mk (hO.out.below hB6)
   have HCH:=HidS.mk (HCH.out.below hB6)
   have HJ6:=HidS.mk (hJ1.out.below hB6')
   obtain ⟨c1,c2,c3,c4,c5,c6⟩:=T4.three
   obtain ⟨d1,d2,d3,d4,d5,d6⟩:=T9.three
   obtain ⟨vo,vc,rfl⟩:=hO.out.shape
   have hlen : ((bdLs c k).take i).length = i:=by rw [List.length_take,hBD.out]; omega
   rw [hlen] at hO c3 T4
   have HLN:=HidS.mk hlen
   obtain ⟨row,hrow⟩ : ∃row,J.map (coef (bOf c a)) = row:=⟨_,rfl⟩
   have HROW:=HidS.mk hrow
   have hl1:=lastsB_vecV row
   have hl2:=lastsB_newRw row
   have HVC : HidS (ValC (bOf c a)/\(bOf c a).length<=1000000):=⟨by
    obtain ⟨f,h2,h3,h4⟩:=HF.out
    rw [<-h4,bOf_at HV.out h2]
    exact ⟨HV.out.val f h2,HL.out f h2⟩⟩
   have hsz6:=hs6
   have hsz5:=hb5.size
   clear hlen hrow
   refine wp_serH 7 [pcD 5 [] (fun w v=>VecV w v row),pcD 6 [5] (NewRw row)] ?_
   refine sRd ?_
   refine sRc (fun wS hI Gk hG=>by go_simp; exact ck hG ((row25_any _ _ (bOf c a) J wS (HCH.out.below hI.bel) (HJ6.out.below hI.bel) HVC.out.1 HVC.out.2 (by rw [HC.out]; omega)).mono fun e w' ⟨r,h1,h2,h3⟩=>⟨r,h1,by rw [<-HROW.out]; exact h2,h3⟩)) (fun _ hv=>?_)
   obtain ⟨_,-,ro,rn,rc,rfl,-⟩:=hv
   refine sRc (fun wS hI h5 Gk hG=>?_) (fun _ hv=>?_)
   ·have hal:=(Below.refl wS.heap.size wS).alloc (Nat.le_refl _) (.cells #[.slice ro rn rc] tRw)
    go_simp
    exact hG _ _ ⟨_,_,_,_,rfl,Blk.new _ _ _,VecV.below h5 hal⟩
   obtain ⟨_,-,b7,ra,rm,rd,rfl,-⟩:=hv
   refine sRe ?_
   intro w7 hb7 h5 h6
   have hB7:=nx hB6' hb7
   have T4:=T4.below hb7
   have hO:=HidS.mk (hO.out.below hb7)
   obtain ⟨c1,c2,c3,c4,c5,c6⟩:=T4.three
   have hsz7:=hb7.size
   clear c1 c2 c4 c5 c6
   go_wp2_with (at_builtin; go_loud (refine appRw rfl _ _ rfl W4.heap.size _ ((bdLs c k).take i) rfl hO.out _ [row] rfl h6.rw (by rw [HLN.out]; simp; omega) oM ?_; intro v8 w8 hown8 hgr8 hte8; obtain ⟨o8,m8,q8,rfl⟩ : ∃o m q,v8 = .slice o m q:=(LsO.shape hown8).elim fun o h=>h.elim fun q h=>⟨o,_,q,h⟩; have T8 : Blk w8 w3.heap.size 41 #[.int .i64 R,.int .i64 C,.slice vo i vc]:=(hgr8.block _ T4.lt (fun e=>by have:=hO.out.own _ e.symm; omega)).trans T4; obtain ⟨c1,c2,c3,c4,c5,c6⟩:=T8.three))
   have hB8 : Below w3.heap.size w3 w8:=hB7.grown hgr8 (by have:=hB7.size; omega) (fun g hg=>by have:=hO.out.own g hg; omega)
   have hgs:=hgr8.size
   have H8:=HidS.mk (LsO.te hown8 (TE.setCell T8 dE 2 (.slice o8 m8 q8)))
   have T8' : Blk (w8.setCell ⟨w3.heap.size,2,none⟩ (.slice o8 m8 q8)) w3.heap.size 41 #[.int .i64 R,.int .i64 C,.slice o8 m8 q8]:=by simpa using T8.set_ 2 (.slice o8 m8 q8)
   have HT8:=HidS.mk T8'
   have HST : HidS ((bdLs c k).take i ++ [row] = (bdLs c k).take (i + 1)):=⟨by
    have h1 : (bdLs c k)[i]? = some row:=by
     unfold bdLs
     rw [List.getElem?_map,HI.out,HAI.out,HJ.out]
     exact congrArg some HROW.out
    rw [take_sn h1]⟩
   go_roundw
   case rel=>exact ⟨i + 1,_,by omega,by simp,HT8.out,by rw [<-HST.out]; exact H8,bset hB8 (Nat.le_refl _) 2 _,by simp; omega⟩
   case measure=>simp [intOf]; omega
  ·obtain rfl : R = i:=by omega
   rw [take_all hBD.out] at hO
   obtain ⟨vo,vm,vc,rfl⟩ : ∃o m q,v0 = .slice o m q:=(LsO.shape hO.out).elim fun o h=>h.elim fun q h=>⟨o,_,q,h⟩
   have TT:=HT0.out.below hB0r
   obtain ⟨c1,c2,c3,c4,c5,c6⟩:=T4.three
   obtain ⟨d1,d2,d3,d4,d5,d6⟩:=TT.three
   go_wp2
   refine bodyPost_ret (results_cell_row rfl _ _ w.heap.size _ _ _ _ rfl (TT.put3 _ _ _) Tryz.underlying41 rfl (by rw [Tryz.sizeM]; rfl)) rfl ⟨_,rfl,⟨_,rfl,(LsV.te hO.out.vs (TE.set3 TT dE _ _ _)).rows⟩,?_⟩
   exact bset (bset (bset (nx hB0 hB0r) (Nat.le_refl _) 0 _) (Nat.le_refl _) 1 _) (Nat.le_refl _) 2 _
theorem zip_get {ids zs : List Int} {i : Nat} {a z : Int} (h1 : ids[i]? = some a) (h2 : zs[i]? = some z) : (ids.zip zs)[i]? = some (a,z):=by
 rw [List.getElem?_zip_eq_some]
 exact ⟨h1,h2⟩
theorem SmN.ins {l : Ch} (h : SmN (nrm l)) (i : Nat) : ∀f ∈ (l.take i).foldl insC [],Sm f.2:=fun f hf=>h.sm (by
 have h1:=nrm_le hf
 have h2:=nrm_mak_from (l:=l.take i) (a:=[])
 have h3:=nrm_take (b:=l) (i:=i)
 simp only [nrm] at h2
 omega)
theorem ins_len {l : Ch} {i : Nat} : ((l.take i).foldl insC []).length<=i:=by
 have:=mak_len (l:=l.take i) (a:=[])
 rw [List.length_take] at this
 simp only [List.length_nil] at this
 omega
set_option maxHeartbeats 8000000 in
set_option maxRecDepth 20000 in
theorem chain103_any (v r : Value) (c : Cx) (k : Int) (zs : List Int) (w : World) (h : CpxV w v c) (hr : VecV w r zs) (hn : c.length<=1000000) (hz : zs.length = (cellsC c k).length) (hS : SmN (nrm ((cellsC c k).zip zs))) :
  Calls Tryz.prog 103 #[v,.int .i64 k,r] w fun e w'=>∃u,e = .returned (.tuple #[u,.int .i64 0])/\ChnV w' u (ofC (cellsC c k) zs)/\Below w.heap.size w w':=by
 obtain ⟨ao,ac,rfl,-,hc1⟩:=id h.shape
 obtain ⟨ro,rn,rc,rfl,-⟩:=id hr
 obtain ⟨I,hI⟩ : ∃I,cellsC c k = I:=⟨_,rfl⟩
 obtain ⟨R,hR⟩ : ∃R,I.length = R:=⟨_,rfl⟩
 obtain ⟨n,hxn⟩ : ∃n,c.length = n:=⟨_,rfl⟩
 rw [hI] at hz hS ⊢
 rw [hR] at hz
 obtain rfl : R = rn:=by have:=hr.len; omega
 have hRn : R<=n:=by rw [<-hR,<-hI,<-hxn]; exact cells_len
 rw [hxn] at hn h ⊢
 have H:=HidS.mk h
 have HR:=HidS.mk hr
 have HI:=HidS.mk hI
 have HIR:=HidS.mk hR
 have HZ:=HidS.mk hz
 have HXN:=HidS.mk hxn
 clear h hr hI hR hz hxn
 go_enter Tryz.func103,Tryz.ntmps103
 go_wp2_with fail
 refine (ccells_any _ c k w H.out (by rw [HXN.out]; exact hn)).mono ?_
 rintro e w2 ⟨u1,rfl,hI1,hb2⟩
 rw [HI.out] at hI1
 obtain ⟨io,ic,rfl,-,-⟩:=hI1.vs.shape
 rw [HIR.out] at hI1 ⊢
 have HI1:=HidS.mk hI1.vs
 have HR:=HidS.mk (HR.out.below hb2)
 clear hI1
 go_upto_region 5 with (fail)
 refine wp_world ?_
 intro W3 hW3
 have hB3 : Below w2.heap.size w2 W3:=by rw [hW3.out]; exact (Below.refl _ _).alloc (Nat.le_refl _) _
 clear hW3
 have hO : HidS (ChnV W3 (.slice (some ⟨w2.heap.size,0,none⟩) 0 0) (((I.zip zs).take 0).foldl insC [])):=⟨LsV.nil _ _ _ _ (Nat.zero_le _)⟩
 go_wp2
 go_loopw [9,10] (fun u iv wr=>∃i : Nat,i<=R/\iv = .int .i64 i/\HidS (ChnV wr u (((I.zip zs).take i).foldl insC []))/\Below w2.heap.size w2 wr) (fun _ iv _=>R - (intOf iv).toNat)
 case atStart=>exact ⟨0,by omega,rfl,hO,hB3⟩
 case round=>
  clear hO hB3
  obtain ⟨i,hi,rfl,hO,hB⟩:=hrel
  obtain ⟨uo,uc,rfl,-,-⟩:=id hO.out.shape
  have hlen:=ins_len (l:=I.zip zs) (i:=i)
  obtain ⟨q,hq⟩ : ∃q,(((I.zip zs).take i).foldl insC []).length = q:=⟨_,rfl⟩
  rw [hq] at hO hlen ⊢
  have HQ:=HidS.mk hq
  clear hq
  by_cases hlt : i < R
  ·obtain ⟨a,ha⟩:=lt_get HIR.out hlt
   obtain ⟨z,hz⟩:=lt_get HZ.out hlt
   obtain ⟨b1,rfl,hb1,g1⟩:=(HI1.out.below hB).int ha
   obtain ⟨b2,z',s,a1,l,k1,rfl,hb2',ez,f1,f2,hv⟩:=(HR.out.below hB).cell (k:=i) (by rw [HZ.out]; exact hlt)
   rw [hz] at ez
   cases ez
   have HF:=HidS.mk (zip_get ha hz)
   have HV:=HidS.mk hv
   have HSZ : HidS (Sm z):=⟨hS.sm (nrm_le (List.mem_of_getElem? HF.out))⟩
   have HF3:=HidS.mk (hS.ins i)
   have hl2:=lastsB_ls faceE (insC (((I.zip zs).take i).foldl insC []) (a,z))
   clear ha hz hv
   go_upto_region 8 with (fail)
   refine wp_serH 11 [pcD 10 [] (fun w v=>ChnV w v (insC (((I.zip zs).take i).foldl insC []) (a,z)))] ?_
   refine sRd ?_
   refine sRc (fun wS hI Gk hG=>by go_simp; exact ck hG ((cinsert_any _ _ a z s a1 l k1 wS (hO.out.below hI.bel) (HV.out.ext hI.lext) HF3.out HSZ.out (by rw [HQ.out]; omega)).mono fun e w' ⟨u,h1,h2,h3⟩=>⟨u,h1,h2.vs,h3⟩)) (fun v14 _=>?_)
   refine sRe ?_
   intro w5 hb5 h10
   have hB5:=nx hB hb5
   have H10 : HidS (ChnV w5 v14 (((I.zip zs).take (i + 1)).foldl insC [])):=⟨by rw [take_sn HF.out,List.foldl_append]; exact h10⟩
   clear h10
   go_wp2
   go_roundw
   case rel=>exact ⟨i + 1,by omega,by simp,H10,hB5⟩
   case measure=>simp [intOf]; omega
  ·obtain rfl : R = i:=by omega
   have hdr : (I.zip zs).take R = I.zip zs:=take_all (by rw [List.length_zip,HIR.out,HZ.out]; exact Nat.min_self _)
   rw [hdr] at hO
   go_wp2
   go_ret2
   exact ⟨_,rfl,hO.out,nx hb2 hB⟩
theorem cof_any (v r : Value) (c : Cx) (k : Int) (zs : List Int) (w : World) (h : CpxV w v c) (hr : VecV w r zs) (hn : c.length<=1000000) (hz : zs.length = (cellsC c k).length) (hS : SmN (nrm ((cellsC c k).zip zs))) :
  Calls Tryz.prog 58 #[v,.int .i64 k,r] w fun e w'=>∃u,e = .returned u/\ChnV w' u (ofC (cellsC c k) zs)/\Below w.heap.size w w':=by
 have HC:=HidS.mk (chain103_any v r c k zs w h hr hn hz hS)
 obtain ⟨ao,ac,rfl,-,hc1⟩:=id h.shape
 obtain ⟨ro,rn,rc,rfl,-⟩:=id hr
 clear h hr hz hS
 go_enter Tryz.func58,Tryz.ntmps58
 go_wp2_with fail
 refine HC.out.mono ?_
 rintro e w2 ⟨u,rfl,h1,hb2⟩
 go_wp2
 go_ret
 exact ⟨_,rfl,h1,hb2⟩
def dimGo (c : Cx) : Ch->Bool->Int->Bool->Int × Int
 | [],_,d,m=>if m then (0,260) else (d,0)
 | f :: x,first,d,m=>match findC c f.1 with
  | none=>(0,250)
  | some q=>dimGo c x false q.2.1 (m || (!first && (q.2.1 != d)))
def dimC (c : Cx) (x : Ch) : Int × Int:=dimGo c x true (-1) false
set_option maxHeartbeats 8000000 in
set_option maxRecDepth 20000 in
theorem dim_any (v u : Value) (c : Cx) (x : Ch) (w : World) (h : CpxV w v c) (hx : ChnV w u x) :
  Calls Tryz.prog 66 #[v,u] w fun e w'=>e = .returned (.tuple #[.int .i64 (dimC c x).1,.int .i64 (dimC c x).2])/\Below w.heap.size w w':=by
 obtain ⟨ao,ac,rfl,-,-⟩:=id h.shape
 obtain ⟨bo,bc,rfl,-,-⟩:=id hx.shape
 obtain ⟨m,hcm⟩ : ∃n,c.length = n:=⟨_,rfl⟩
 obtain ⟨n,hxn⟩ : ∃n,x.length = n:=⟨_,rfl⟩
 have hl:=hx.len
 rw [hcm] at h ⊢
 rw [hxn] at hx hl ⊢
 have hn9 : n<=9223372036854775807:=by omega
 obtain ⟨d1,d2,hd⟩ : ∃d1 d2,dimC c x = (d1,d2):=⟨_,_,rfl⟩
 rw [hd]
 have HD:=HidS.mk hd
 have H:=HidS.mk h
 have HX:=HidS.mk hx
 have HXN:=HidS.mk hxn
 clear h hx hxn hd hcm
 go_enter Tryz.func66,Tryz.ntmps66
 go_wp2
 go_loopw [6,7,8] (fun dv mv iv wr=>∃(i : Nat) (d : Int) (b : Bool),i<=n/\iv = .int .i64 i/\dv = .int .i64 d/\mv = .bool b/\HidS (dimGo c (x.drop i) (i == 0) d b = (d1,d2))/\Below w.heap.size w wr) (fun _ _ iv _=>n - (intOf iv).toNat)
 case atStart=>exact ⟨0,-1,false,by omega,rfl,rfl,rfl,HD,Below.refl _ _⟩
 case round=>
  obtain ⟨i,d,b,hi,rfl,rfl,rfl,hst,hB⟩:=hrel
  by_cases hlt : i < n
  ·obtain ⟨f,hf⟩:=lt_get HXN.out hlt
   obtain ⟨b',s2,a2,l2,k2,rfl,hb,f1,f2,f3,hv⟩:=(HX.out.below hB).face hf
   have HST:=HidS.mk (show dimGo c (f :: x.drop (i + 1)) (i == 0) d b = (d1,d2) by rw [<-drop_get hf]; exact hst.out)
   clear hv hf hst
   go_wp2_with fail
   refine (cfind_any _ c f.1 wr (H.out.below hB)).mono ?_
   rintro e w5 ⟨_,rfl,⟨_,rfl,o,n',c',rfl,hch⟩,hb5⟩
   obtain ⟨fl,hfl⟩ : ∃q,(findC c f.1).isSome = q:=⟨_,rfl⟩
   obtain ⟨e1,he1⟩ : ∃q,(celD c f.1).1 = q:=⟨_,rfl⟩
   obtain ⟨e2,he2⟩ : ∃q,(celD c f.1).2.1 = q:=⟨_,rfl⟩
   rw [hfl,he1,he2]
   have HFL:=HidS.mk hfl
   have HE2:=HidS.mk he2
   clear f1 f2 f3 hch hfl he1 he2
   go_upto_region 6 with (fail)
   refine wp_world ?_
   intro W6 hW6
   obtain ⟨hB6,T9,hs6⟩:=world1 hW6
   clear hW6
   have hB6:=nx (nx hB hb5) hB6
   obtain ⟨c1,c2,c3,c4,c5,c6⟩:=T9.three
   cases fl
   ·have HE : HidS ((0,250) = (d1,d2)):=⟨by
     have:=HST.out
     unfold dimGo at this
     have h2:=HFL.out
     rw [Option.isSome_eq_false_iff,Option.isNone_iff_eq_none] at h2
     rw [h2] at this
     exact this⟩
    clear HST HFL
    go_wp2
    go_ret2
    have:=HE.out
    cases this
    exact ⟨rfl,hB6⟩
   ·have HE : HidS (dimGo c (x.drop (i + 1)) ((i + 1) == 0) e2 (b || (!(i == 0) && (e2 != d))) = (d1,d2)):=⟨by
     have:=HST.out
     unfold dimGo at this
     obtain ⟨q,h2⟩:=Option.isSome_iff_exists.1 HFL.out
     rw [h2] at this
     have h3:=HE2.out
     unfold celD at h3
     rw [h2] at h3
     rw [<-h3]
     exact this⟩
    clear HST HFL HE2
    by_cases hi0 : i = 0
    ·subst hi0
     have HE' : HidS (dimGo c (x.drop (0 + 1)) ((0 + 1) == 0) e2 b = (d1,d2)):=⟨by
      have:=HE.out
      simpa using this⟩
     clear HE
     go_wp2
     go_roundw
     case rel=>exact ⟨1,e2,b,by omega,by simp,rfl,rfl,HE',hB6⟩
     case measure=>simp [intOf]; omega
    ·have hgt : (decide ((i : Int) > 0)) = true:=by simp; omega
     have hi0' : 0 < i:=by omega
     by_cases hde : e2 = d
     ·subst hde
      have HE' : HidS (dimGo c (x.drop (i + 1)) ((i + 1) == 0) e2 b = (d1,d2)):=⟨by
       have:=HE.out
       simpa using this⟩
      clear HE
      go_wp2
      go_roundw
      case rel=>exact ⟨i + 1,e2,b,by omega,by simp,rfl,rfl,HE',hB6⟩
      case measure=>simp [intOf]; omega
     ·have hde' : (e2 != d) = true:=by simpa using hde
      have HE' : HidS (dimGo c (x.drop (i + 1)) ((i + 1) == 0) e2 true = (d1,d2)):=⟨by
       have:=HE.out
       rw [hde',show (i == 0) = false by simpa using hi0] at this
       simpa using this⟩
      clear HE
      go_wp2
      go_roundw
      case rel=>exact ⟨i + 1,e2,true,by omega,by simp,rfl,rfl,HE',hB6⟩
      case measure=>simp [intOf]; omega
  ·obtain rfl : n = i:=by omega
   have HE : HidS ((if b then ((0 : Int),(260 : Int)) else (d,0)) = (d1,d2)):=⟨by
    have:=hst.out
    rw [List.drop_eq_nil_of_le (by rw [HXN.out]; exact Nat.le_refl _)] at this
    exact this⟩
   clear hst
   cases b
   ·have HE' : HidS (((d : Int),(0 : Int)) = (d1,d2)):=⟨HE.out⟩
    clear HE
    go_wp2
    go_ret2
    have:=HE'.out
    cases this
    exact ⟨rfl,hB⟩
   ·have HE' : HidS (((0 : Int),(260 : Int)) = (d1,d2)):=⟨HE.out⟩
    clear HE
    go_wp2
    go_ret2
    have:=HE'.out
    cases this
    exact ⟨rfl,hB⟩
def nrmA (F : Int->Ch) : Ch->Nat
 | []=>0
 | f :: x=>f.2.natAbs * nrm (F f.1) + nrmA F x
def lenA (F : Int->Ch) : Ch->Nat
 | []=>0
 | f :: x=>(F f.1).length + lenA F x
theorem nrm_act {F : Int->Ch} : ∀{x a : Ch},nrm (actC F a x)<=nrm a + nrmA F x:=by
 intro x
 induction x with
 | nil=>intro a; exact Nat.le_refl _
 | cons f x ih=>
  intro a
  have h1:=ih (a:=plusC a (F f.1) f.2)
  have h2:=nrm_add (a:=a) (b:=F f.1) (k:=f.2)
  show nrm (actC F (plusC a (F f.1) f.2) x)<=_
  simp only [nrmA]
  omega
theorem len_act {F : Int->Ch} : ∀{x a : Ch},(actC F a x).length<=a.length + lenA F x:=by
 intro x
 induction x with
 | nil=>intro a; exact Nat.le_refl _
 | cons f x ih=>
  intro a
  have h1:=ih (a:=plusC a (F f.1) f.2)
  have h2:=addC_len (a:=a) (b:=F f.1) (k:=f.2)
  show (actC F (plusC a (F f.1) f.2) x).length<=_
  simp only [lenA]
  omega
theorem nrmA_split {F : Int->Ch} : ∀{i : Nat} {x : Ch} {f : Int × Int},x[i]? = some f->nrmA F (x.take i) + f.2.natAbs * nrm (F f.1)<=nrmA F x/\lenA F (x.take i) + (F f.1).length<=lenA F x:=by
 intro i
 induction i with
 | zero=>
  intro x f h
  cases x with
  | nil=>simp at h
  | cons g x=>simp at h; subst h; simp [nrmA,lenA]
 | succ i ih=>
  intro x f h
  cases x with
  | nil=>simp at h
  | cons g x=>
   simp at h
   have:=ih h
   simp only [List.take_succ_cons,nrmA,lenA]
   omega
structure ActOk (F : Int->Ch) (x : Ch) : Prop where
 sm : SmN (nrmA F x)
 cf : ∀f ∈ x,SmN f.2.natAbs/\SmN (nrm (F f.1))
 len : lenA F x<=1000000
theorem act_snoc {F : Int->Ch} {x a : Ch} {i : Nat} {f : Int × Int} (h : x[i]? = some f) : actC F a (x.take (i + 1)) = plusC (actC F a (x.take i)) (F f.1) f.2:=by
 unfold actC
 rw [take_sn h,List.foldl_append]
 rfl
theorem ActOk.step {F : Int->Ch} {x : Ch} (h : ActOk F x) {i : Nat} {f : Int × Int} (hf : x[i]? = some f) : SmN (nrm (actC F [] (x.take i)) + f.2.natAbs * nrm (F f.1))/\SmN f.2.natAbs/\SmN (nrm (F f.1))/\(actC F [] (x.take i)).length + (F f.1).length<=1000000:=by
 have h1:=nrm_act (F:=F) (x:=x.take i) (a:=[])
 have h2:=len_act (F:=F) (x:=x.take i) (a:=[])
 obtain ⟨h3,h4⟩:=nrmA_split (F:=F) hf
 obtain ⟨h5,h6⟩:=h.cf f (List.mem_of_getElem? hf)
 have h7:=h.len
 simp only [nrm,List.length_nil] at h1 h2
 exact ⟨h.sm.le oM,h5,h6,by omega⟩
def edC (c : Cx) (x : Ch) : Ch:=if (dimC c x).2 = 0 then bdC c x else []
def BdT (c : Cx) (x : Ch) (w : World) (v : Value) : Prop:=∃o n k,v = .tuple #[.slice o n k,.int .i64 (dimC c x).2]/\ChnV w (.slice o n k) (edC c x)
set_option maxHeartbeats 8000000 in
set_option maxRecDepth 20000 in
theorem bd26_any (v u : Value) (c : Cx) (x : Ch) (w : World) (h : CpxV w v c) (hx : ChnV w u x) (hA : ActOk (bOf c) x) :
  Calls Tryz.prog 80 #[v,u] w fun e w'=>∃r,e = .returned r/\BdT c x w' r/\Below w.heap.size w w':=by
 have HDIM:=HidS.mk (dim_any v u c x w h hx)
 obtain ⟨ao,ac,rfl,-,-⟩:=id h.shape
 obtain ⟨bo,bc,rfl,-,-⟩:=id hx.shape
 obtain ⟨m,hcm⟩ : ∃n,c.length = n:=⟨_,rfl⟩
 obtain ⟨n,hxn⟩ : ∃n,x.length = n:=⟨_,rfl⟩
 have hl:=hx.len
 rw [hcm] at h HDIM ⊢
 rw [hxn] at hx hl HDIM ⊢
 have hn9 : n<=9223372036854775807:=by omega
 obtain ⟨d1,hd1⟩ : ∃d,(dimC c x).1 = d:=⟨_,rfl⟩
 obtain ⟨d2,hd2⟩ : ∃d,(dimC c x).2 = d:=⟨_,rfl⟩
 rw [hd1,hd2] at HDIM
 have HD2:=HidS.mk hd2
 have H:=HidS.mk h
 have HX:=HidS.mk hx
 have HXN:=HidS.mk hxn
 have HA:=HidS.mk hA
 clear h hx hxn hcm hd1 hd2 hA
 go_enter Tryz.func80,Tryz.ntmps80
 go_wp2_with fail
 refine HDIM.out.mono ?_
 rintro e w2 ⟨rfl,hb2⟩
 have H:=HidS.mk (H.out.below hb2)
 have HX:=HidS.mk (HX.out.below hb2)
 by_cases h0 : d2 = 0
 ·subst h0
  have HE : HidS (edC c x = actC (bOf c) [] x):=⟨by unfold edC; rw [HD2.out,if_pos rfl]; rfl⟩
  go_upto_region 5 with (fail)
  refine wp_world ?_
  intro W3 hW3
  have hB3 : Below w2.heap.size w2 W3:=by rw [hW3.out]; exact (Below.refl _ _).alloc (Nat.le_refl _) _
  clear hW3
  have hO : HidS (ChnV W3 (.slice (some ⟨w2.heap.size,0,none⟩) 0 0) (actC (bOf c) [] (x.take 0))):=⟨LsV.nil _ _ _ _ (Nat.zero_le _)⟩
  go_wp2
  go_loopw [8,9] (fun u iv wr=>∃i : Nat,i<=n/\iv = .int .i64 i/\HidS (ChnV wr u (actC (bOf c) [] (x.take i)))/\Below w2.heap.size w2 wr) (fun _ iv _=>n - (intOf iv).toNat)
  case atStart=>exact ⟨0,by omega,rfl,hO,hB3⟩
  case round=>
   clear hO hB3
   obtain ⟨i,hi,rfl,hO,hB⟩:=hrel
   obtain ⟨uo,uc,rfl,-,-⟩:=id hO.out.shape
   obtain ⟨q,hq⟩ : ∃q,(actC (bOf c) [] (x.take i)).length = q:=⟨_,rfl⟩
   rw [hq] at hO ⊢
   have HQ:=HidS.mk hq
   clear hq
   by_cases hlt : i < n
   ·obtain ⟨f,hf⟩:=lt_get HXN.out hlt
    obtain ⟨b',s2,a2,l2,k2,rfl,hb,f1,f2,f3,hv⟩:=(HX.out.below hB).face hf
    have HF:=HidS.mk hf
    clear hv hf
    go_wp2_with fail
    refine (cfind_any _ c f.1 wr (H.out.below hB)).mono ?_
    rintro e w5 ⟨_,rfl,⟨_,rfl,o,n',c',rfl,hch⟩,hb5⟩
    have HCH:=HidS.mk (show ChnV w5 (.slice o n' c') (bOf c f.1) by rw [<-bOf_celD]; exact hch)
    have hO:=HidS.mk (hO.out.below hb5)
    clear f1 f2 f3 hch
    go_upto_region 9 with (fail)
    refine wp_world ?_
    intro W6 hW6
    obtain ⟨hB6,T9,hs6⟩:=world1 hW6
    clear hW6
    have hB6':=nx (nx hB hb5) hB6
    have HCH:=HidS.mk (HCH.out.below hB6)
    have hO:=HidS.mk (hO.out.below hB6)
    obtain ⟨c1,c2,c3,c4,c5,c6⟩:=T9.three
    obtain ⟨b',s2,a2,l2,k2,eb,hb,f1,f2,f3,hv⟩:=(HX.out.below hB6').face HF.out
    cases eb
    have HV:=HidS.mk hv
    have HST:=HidS.mk (HA.out.step HF.out)
    have hl2:=lastsB_ls faceE (plusC (actC (bOf c) [] (x.take i)) (bOf c f.1) f.2)
    clear hv
    refine wp_serH 9 [pcD 8 [] (fun w v=>ChnV w v (plusC (actC (bOf c) [] (x.take i)) (bOf c f.1) f.2))] ?_
    refine sRd ?_
    refine sRc (fun wS hI Gk hG=>by go_simp; exact ck hG (cadd_any _ _ _ _ _ f.2 wS (hO.out.below hI.bel) (HCH.out.below hI.bel) (HV.out.ext hI.lext) HST.out.1 HST.out.2.1 HST.out.2.2.1 HST.out.2.2.2)) (fun v14 _=>?_)
    refine sRe ?_
    intro w7 hb7 h8
    have hB7:=nx hB6' hb7
    have H8 : HidS (ChnV w7 v14 (actC (bOf c) [] (x.take (i + 1)))):=⟨by rw [act_snoc HF.out]; exact h8⟩
    clear h8
    go_wp2
    go_roundw
    case rel=>exact ⟨i + 1,by omega,by simp,H8,hB7⟩
    case measure=>simp [intOf]; omega
   ·obtain rfl : n = i:=by omega
    rw [take_all HXN.out] at hO
    go_wp2
    go_ret2
    exact ⟨_,rfl,⟨uo,q,uc,by rw [HD2.out]; rfl,by rw [HE.out]; exact hO.out⟩,nx hb2 hB⟩
 ·have HE : HidS (edC c x = []):=⟨by unfold edC; rw [HD2.out,if_neg h0]⟩
  have hne : (d2 != 0) = true:=by simpa using h0
  go_wp2
  go_ret2
  exact ⟨_,rfl,⟨none,0,0,by rw [HD2.out]; rfl,by rw [HE.out]; exact LsV.nil _ _ _ _ (Nat.zero_le _)⟩,hb2⟩
theorem edge_any (v u : Value) (c : Cx) (x : Ch) (w : World) (h : CpxV w v c) (hx : ChnV w u x) (hA : ActOk (bOf c) x) :
  Calls Tryz.prog 67 #[v,u] w fun e w'=>∃r,e = .returned r/\ChnV w' r (edC c x)/\Below w.heap.size w w':=by
 have HC:=HidS.mk (bd26_any v u c x w h hx hA)
 obtain ⟨ao,ac,rfl,-,-⟩:=id h.shape
 obtain ⟨bo,bc,rfl,-,-⟩:=id hx.shape
 clear h hx hA
 go_enter Tryz.func67,Tryz.ntmps67
 go_wp2_with fail
 refine HC.out.mono ?_
 rintro e w2 ⟨_,rfl,⟨o,m,k,rfl,h1⟩,hb2⟩
 go_wp2
 go_ret
 exact ⟨_,rfl,h1,hb2⟩
theorem cycle_any (v u : Value) (c : Cx) (x : Ch) (w : World) (h : CpxV w v c) (hx : ChnV w u x) (hA : ActOk (bOf c) x) :
  Calls Tryz.prog 33 #[v,u] w fun e w'=>e = .returned (.bool (decide ((dimC c x).2 = 0/\bdC c x = [])))/\Below w.heap.size w w':=by
 have HC:=HidS.mk (bd26_any v u c x w h hx hA)
 obtain ⟨ao,ac,rfl,-,-⟩:=id h.shape
 obtain ⟨bo,bc,rfl,-,-⟩:=id hx.shape
 obtain ⟨ans,han⟩ : ∃q,decide ((dimC c x).2 = 0/\bdC c x = []) = q:=⟨_,rfl⟩
 rw [han]
 have HN:=HidS.mk han
 clear h hx hA han
 go_enter Tryz.func33,Tryz.ntmps33
 go_wp2_with fail
 refine HC.out.mono ?_
 rintro e w2 ⟨_,rfl,⟨o,m,k,rfl,h1⟩,hb2⟩
 obtain ⟨d2,hd2⟩ : ∃d,(dimC c x).2 = d:=⟨_,rfl⟩
 rw [hd2]
 have hlen:=h1.len.1
 have hm9 : m<=9223372036854775807:=by have:=h1.len; omega
 have HD:=HidS.mk hd2
 have HL:=HidS.mk hlen
 clear h1 hlen hd2
 by_cases h0 : d2 = 0
 ·subst h0
  by_cases hm : m = 0
  ·subst hm
   obtain rfl : ans = true:=HN.out.symm.trans (decide_eq_true ⟨HD.out,by
    have:=HL.out
    unfold edC at this
    rw [HD.out,if_pos rfl] at this
    exact List.eq_nil_of_length_eq_zero this.symm⟩)
   go_wp2
   go_ret
   exact ⟨rfl,hb2⟩
  ·obtain rfl : ans = false:=HN.out.symm.trans (decide_eq_false fun h=>hm (by
    have:=HL.out
    unfold edC at this
    rw [HD.out,if_pos rfl,h.2] at this
    exact this))
   have hme : ((m : Int) == 0) = false:=by simp; omega
   go_wp2
   go_ret
   exact ⟨rfl,hb2⟩
 ·obtain rfl : ans = false:=HN.out.symm.trans (decide_eq_false fun h=>h0 (HD.out.symm.trans h.1))
  have hne : (d2 == 0) = false:=by simpa using h0
  go_wp2
  go_ret
  exact ⟨rfl,hb2⟩
def flatC : Ch->List Int
 | []=>[]
 | f :: x=>f.1 :: f.2 :: flatC x
theorem flatC_len : ∀(x : Ch),(flatC x).length = 2 * x.length
 | []=>rfl
 | f :: x=>by simp only [flatC,List.length_cons]; rw [flatC_len x]; omega
theorem flatC_at : ∀{x : Ch} {i : Nat} {f : Int × Int},x[i]? = some f->(flatC x)[2 * i]? = some f.1/\(flatC x)[2 * i + 1]? = some f.2:=by
 intro x
 induction x with
 | nil=>intro i f h; simp at h
 | cons g x ih=>
  intro i f h
  cases i with
  | zero=>simp at h; subst h; exact ⟨rfl,rfl⟩
  | succ i=>
   simp at h
   have:=ih h
   rw [show 2 * (i + 1) = 2 * i + 1 + 1 by omega,show 2 * i + 1 + 1 + 1 = (2 * i + 1) + 1 + 1 by omega]
   exact this
theorem I64V.at_ {w : World} {ao : Option Addr} {n cap : Nat} {ls : List Int} (h : I64V w (.slice ao n cap) ls) {k : Nat} {z : Int} (hk : ls[k]? = some z) :
  ∃b,ao = some ⟨b,0,none⟩/\b < w.heap.size/\w.cell? ⟨b,k,none⟩ = some (.int .i64 z)/\-9223372036854775808<=z/\z<=9223372036854775807:=by
 obtain ⟨b,z',h1,h2,h3,h4,h5⟩:=h.cell (List.getElem?_eq_some_iff.1 hk).1
 rw [hk] at h3
 cases h3
 exact ⟨b,h1,h2,h4,h5⟩
theorem two_pow_lim {n e : Nat} (h : n < 2 ^ e) (he : e<=32 * LIM) : SmN n:=⟨Nat.lt_of_lt_of_le h (by
 rw [show B32 = 2 ^ 32 from by decide,<-Nat.pow_mul]
 exact Nat.pow_le_pow_right oM he)⟩
set_option maxHeartbeats 8000000 in
set_option maxRecDepth 20000 in
theorem cell_any (v : Value) (nr d : Int) (x y : Ch) (w : World) (h : I64V w v (flatC x)) (hy : makC x = y) (hS : SmN (nrm x)) (hn : x.length<=1000) :
  Calls Tryz.prog 38 #[.int .i64 nr,.int .i64 d,v] w fun e w'=>∃u,e = .returned u/\CelV w' u (nr,d,y)/\Below w.heap.size w w':=by
 have h0:=h
 obtain ⟨ao,m,ac,rfl,hm,hc1,hc2,-,-⟩:=h0
 obtain ⟨n,hxn⟩ : ∃n,x.length = n:=⟨_,rfl⟩
 rw [flatC_len,hxn] at hm
 rw [hxn] at hn
 have H:=HidS.mk h
 have HXN:=HidS.mk hxn
 have HY:=HidS.mk hy
 have HM:=HidS.mk hm
 have hm9 : m<=2000:=by omega
 clear h hxn hy hm
 go_enter Tryz.func38,Tryz.ntmps38
 go_upto_region 2 with (fail)
 refine wp_world ?_
 intro W0 hW0
 obtain ⟨hB0,T0,-,hs0⟩:=world2 hW0
 clear hW0
 have hO : HidS (ChnV W0 (.slice (some ⟨w.heap.size + 1,0,none⟩) 0 0) ((x.take 0).foldl insC [])):=⟨LsV.nil _ _ _ _ (Nat.zero_le _)⟩
 have H:=HidS.mk (H.out.below hB0)
 have HT:=HidS.mk T0
 go_wp2
 go_loopw [7,8] (fun u iv wr=>∃i j : Nat,HidS (j = 2 * i/\i<=n)/\j<=m/\iv = .int .i64 j/\HidS (ChnV wr u ((x.take i).foldl insC []))/\Below W0.heap.size W0 wr) (fun _ iv _=>m - (intOf iv).toNat)
 case atStart=>exact ⟨0,0,⟨rfl,Nat.zero_le _⟩,by omega,rfl,hO,Below.refl _ _⟩
 case round=>
  clear hO T0
  obtain ⟨i,j,hij,hjm,rfl,hO,hB⟩:=hrel
  obtain ⟨uo,uc,rfl,-,-⟩:=id hO.out.shape
  have hlen:=ins_len (l:=x) (i:=i)
  obtain ⟨q,hq⟩ : ∃q,((x.take i).foldl insC []).length = q:=⟨_,rfl⟩
  rw [hq] at hO hlen ⊢
  have HQ:=HidS.mk hq
  have HLN:=HidS.mk hlen
  clear hq
  by_cases hlt : j + 1 < m
  ·have hlt' : i < n:=by have:=hij.out; have:=HM.out; omega
   obtain ⟨f,hf⟩:=lt_get HXN.out hlt'
   obtain ⟨hf1,hf2⟩:=flatC_at hf
   rw [<-hij.out.1] at hf1 hf2
   obtain ⟨b1,rfl,hb1,g1,r1⟩:=(H.out.below hB).at_ hf1
   obtain ⟨b2,eb,hb2,g2,r2⟩:=(H.out.below hB).at_ hf2
   cases eb
   have HF:=HidS.mk hf
   have HR2:=HidS.mk r2
   have HSZ : HidS (Sm f.2):=⟨hS.sm (nrm_le (List.mem_of_getElem? hf))⟩
   have HF3:=HidS.mk (hS.ins i)
   have hl1:=lasts_int f.2
   have hl2:=lastsB_ls faceE (insC ((x.take i).foldl insC []) (f.1,f.2))
   have hin : i<=1000:=by omega
   have HIN:=HidS.mk hin
   clear hf hf1 hf2 r1 r2 hlt' hlen hin
   obtain ⟨q5,hq5⟩ : ∃q : Nat,j + 1 = q:=⟨_,rfl⟩
   rw [hq5] at g2 hlt
   have hqI : (j : Int) + 1 = (q5 : Int):=by omega
   have hw2 : IntKind.i64.wrap (q5 : Int) = (q5 : Int):=IntWalk.i64_in _ oM
   have hjlt : j < m:=by omega
   have HQ5:=HidS.mk hq5
   clear hq5 hjm
   go_upto_region 5 with (fail)
   refine wp_serH 13 [pcD 7 [] (fun _ v=>v = .int .i64 q5),pcD 10 [] (fun w v=>IntV w v f.2),pcD 12 [10] (fun w v=>ChnV w v (insC ((x.take i).foldl insC []) (f.1,f.2)))] ?_
   refine sRd ?_
   refine sRc (fun wS hI Gk hG=>by go_simp; exact ⟨hG _ _ rfl,Below.refl _ _⟩) (fun va7 hv7=>?_)
   obtain ⟨_,-,hv7⟩:=hv7
   obtain rfl : va7 = .int .i64 q5:=hv7
   refine sRd ?_
   refine sRc (fun wS hI Gk hG=>by go_simp; exact ck hG (r1of_any f.2 wS HR2.out.1 HR2.out.2)) (fun _ hv=>?_)
   obtain ⟨_,-,s5,a5,l5,k5,_,rfl,-⟩:=hv
   refine sRd ?_
   refine sRc (fun wS hI h10 Gk hG=>by go_simp; exact ck hG ((cinsert_any _ _ f.1 f.2 s5 a5 l5 k5 wS (hO.out.below hI.bel) h10 HF3.out HSZ.out (by rw [HQ.out]; have:=HLN.out; have:=HIN.out; omega)).mono fun e w' ⟨u,h1,h2,h3⟩=>⟨u,h1,h2.vs,h3⟩)) (fun v12 _=>?_)
   refine sRe ?_
   intro w5 hb5 _ h10 h12
   have hjm : j + 2<=m:=by have:=HQ5.out; omega
   have hB5:=nx hB hb5
   have H10 : HidS (ChnV w5 v12 ((x.take (i + 1)).foldl insC [])):=⟨by rw [take_sn HF.out,List.foldl_append]; exact h12⟩
   clear h10 h12
   go_wp2
   go_roundw
   case rel=>exact ⟨i + 1,j + 2,⟨by have:=hij.out; omega,by have:=hij.out; have:=HM.out; omega⟩,by omega,by simp,H10,hB5⟩
   case measure=>simp [intOf]; omega
  ·have hin : n = i:=by have:=hij.out; have:=HM.out; omega
   rw [<-hin,take_all HXN.out] at hO
   clear hin hlen
   have T3:=HT.out.below hB
   obtain ⟨c1,c2,c3,c4,c5,c6⟩:=T3.three
   go_wp2
   refine bodyPost_ret (results_cell_row rfl _ _ w.heap.size _ _ _ _ rfl (T3.put3 _ _ _) Tryz.underlying85 rfl (by rw [Tryz.sizeCe]; rfl)) rfl ⟨_,rfl,⟨_,_,_,rfl,?_⟩,?_⟩
   ·rw [<-HY.out]
    exact LsV.te hO.out (TE.set3 T3 dE _ _ _)
   ·exact bset (bset (bset (nx hB0 hB) (Nat.le_refl _) 0 _) (Nat.le_refl _) 1 _) (Nat.le_refl _) 2 _
structure RA (S : List Nat) (k : Nat) (W : World) (T0 : Array Value) (vs : List VS) (L : Array Bool) (T : Array Value) (w : World) : Prop where
 wf : wellRV T0.size vs = true
 lv : ∀s ∈ vs,LastsB s.P
 size : T.size = T0.size
 keep : ∀j,(∀s ∈ vs,s.slot ≠ j)->T[j]? = T0[j]?
 onl : Only S W w
 bef : L[k]? = some false->Below W.heap.size W w
 val : ∀s ∈ vs,L[s.op]? = some true->∃v,T[s.slot]? = some v/\s.P w v
section
variable {S : List Nat} {p : Nat} {W : World} {T0 : Array Value} {vs : List VS} {L : Array Bool} {T : Array Value} {w w' : World}
theorem RA.start (hwf : wellRV T0.size vs = true) (hv : ∀s ∈ vs,LastsB s.P) {n : Nat} : RA S p W T0 vs (Array.replicate n false) T0 W.drew:=
 ⟨hwf,hv,rfl,fun _ _=>rfl,Only.of S (dr _),fun _=>dr _,fun s _ h=>by
  rw [Array.getElem?_replicate] at h
  split at h <;> simp at h⟩
theorem RA.world (h : RA S p W T0 vs L T w) (hb : Below w.heap.size w w') : RA S p W T0 vs L T w':=
 ⟨h.wf,h.lv,h.size,h.keep,h.onl.trans (Only.of S hb),fun hp=>nx (h.bef hp) hb,fun s hs hl=>by
  obtain ⟨v,h1,h2⟩:=h.val s hs hl
  exact ⟨v,h1,h.lv s hs _ _ _ hb h2⟩⟩
theorem RA.value {k : Nat} {v : Value} (h : RA S p W T0 vs L T w) (s : VS) (hs : s ∈ vs) (hk : s.op = k) (hP : s.P w v) : RA S p W T0 vs (L.setIfInBounds k true) (T.setIfInBounds s.slot v) w:=by
 subst hk
 have hwf:=h.wf
 unfold wellRV at hwf
 simp only [Bool.and_eq_true,decide_eq_true_eq,List.all_eq_true] at hwf
 obtain ⟨⟨w1,w2⟩,w3⟩:=hwf
 have hslot : s.slot < T0.size:=w3 _ (List.mem_map.2 ⟨s,hs,rfl⟩)
 refine ⟨h.wf,h.lv,by simp [h.size],fun j h1=>by rw [Array.getElem?_setIfInBounds_ne (h1 s hs)]; exact h.keep j h1,h.onl,fun hp=>h.bef ?_,?_⟩
 ·by_cases he : s.op = p
  ·subst he
   rw [Array.getElem?_setIfInBounds] at hp
   split at hp
   ·split at hp <;> cases hp
   ·exact hp
  ·rwa [Array.getElem?_setIfInBounds_ne he] at hp
 intro t ht hl
 by_cases he : t = s
 ·subst he
  exact ⟨v,by rw [Array.getElem?_setIfInBounds_self_of_lt (by rw [h.size]; exact hslot)],hP⟩
 ·have n1 : t.op ≠ s.op:=fun e=>he (inj_of_nodup w2 ht hs e)
  have n2 : t.slot ≠ s.slot:=fun e=>he (inj_of_nodup w1 ht hs e)
  obtain ⟨u,h1,h2⟩:=h.val t ht (set_true hl (Ne.symm n1))
  exact ⟨u,by rw [Array.getElem?_setIfInBounds_ne (Ne.symm n2)]; exact h1,h2⟩
theorem RA.v {s : VS} (h : RA S p W T0 vs L T w) (hs : s ∈ vs) (hl : L[s.op]? = some true) : ∃v,T[s.slot]? = some v/\s.P w v:=h.val s hs hl
theorem RA.y {k : Nat} {v : Value} (h : RA S p W T0 vs L T w) {s : VS} (hs : s ∈ vs) (hP : s.P w v) (hk : s.op = k:=by rfl) : RA S p W T0 vs (L.setIfInBounds k true) (T.setIfInBounds s.slot v) w:=h.value s hs hk hP
theorem RA.cell {b o : Nat} {v : Value} (h : RA S p W T0 vs L T w) (hb : b ∉ S) (hlt : b < W.heap.size) (hc : W.cell? ⟨b,o,none⟩ = some v) : w.cell? ⟨b,o,none⟩ = some v:=by
 have:=h.onl.old b hlt hb
 unfold World.cell? at hc ⊢
 rw [this]
 exact hc
end
def RAS (S : List Nat) (p : Nat) (W : World) (T0 : Array Value) (vs : List VS) (q : Nat) (st : Array Value->World->World) (L : Array Bool) (T : Array Value) (w : World) : Prop:=
 ∃w0,RA S p W T0 vs L T w0/\(L[q]? ≠ some true->w = w0)/\(L[q]? = some true->w = st T w0)
section
variable {S : List Nat} {p : Nat} {W : World} {T0 : Array Value} {vs : List VS} {L : Array Bool} {T : Array Value} {w w' : World} {q : Nat} {st : Array Value->World->World}
theorem RAS.start {n : Nat} (h : RA S p W T0 vs (Array.replicate n false) T0 W.drew) : RAS S p W T0 vs q st (Array.replicate n false) T0 W.drew:=
 ⟨_,h,fun _=>rfl,fun hh=>by
  rw [Array.getElem?_replicate] at hh
  split at hh <;> simp at hh⟩
theorem RA.mark (h : RA S p W T0 vs L T w) (hq : ∀s ∈ vs,s.op ≠ q) (hp : q ≠ p) : RA S p W T0 vs (L.setIfInBounds q true) T w:=
 ⟨h.wf,h.lv,h.size,h.keep,h.onl,fun hh=>h.bef (by rwa [Array.getElem?_setIfInBounds_ne hp] at hh),fun s hs hl=>h.val s hs (set_true hl (Ne.symm (hq s hs)))⟩
theorem RAS.pure {k : Nat} {v : Value} (h : RAS S p W T0 vs q st L T w) (s : VS) (hs : s ∈ vs) (hk : s.op = k) (hP : ∀w,s.P w v) (hne : k ≠ q) (hst : ∀w,st (T.setIfInBounds s.slot v) w = st T w) : RAS S p W T0 vs q st (L.setIfInBounds k true) (T.setIfInBounds s.slot v) w:=by
 obtain ⟨w0,h0,h1,h2⟩:=h
 exact ⟨w0,h0.value s hs hk (hP w0),fun hn=>h1 fun hh=>hn (listed_mono hh),fun hh=>(h2 (set_true hh hne)).trans (hst w0).symm⟩
theorem RAS.store (h : RA S p W T0 vs L T w) (hL : L[q]? = some false) (hq : ∀s ∈ vs,s.op ≠ q) (hp : q ≠ p) (hw : w' = st T w) : RAS S p W T0 vs q st (L.setIfInBounds q true) T w':=
 ⟨w,h.mark hq hp,fun hn=>absurd (Array.getElem?_setIfInBounds_self_of_lt (Array.getElem?_eq_some_iff.1 hL).1) hn,fun _=>hw⟩
end
def put3 (a b : Nat) (T : Array Value) (w : World) : World:=
 match T[a]?,T[b]? with
 | some (.pointer (some ⟨g,0,none⟩)),some (.agg #[x,y,z])=>((w.setCell ⟨g,0,none⟩ x).setCell ⟨g,1,none⟩ y).setCell ⟨g,2,none⟩ z
 | _,_=>w
structure SmithV (w : World) (f : Value) (R C : Nat) (S U V W X : List (List Int)) : Prop where
 ex : ∃s u v x y,f = .agg #[.int .i64 R,.int .i64 C,s,.int .i64 R,.int .i64 R,u,.int .i64 R,.int .i64 R,v,.int .i64 C,.int .i64 C,x,.int .i64 C,.int .i64 C,y]/\RowsV w s S/\RowsV w u U/\RowsV w v V/\RowsV w x W/\RowsV w y X
end Go.Proofs.YtjdemlfceaikgaaGreat
