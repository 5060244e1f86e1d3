/- slices.Index, slices.Contains; matrix.Equal's comparison; combine to bools. The law for regions that draw, where nothing is written: values that last behind new memory. matrix.combine to bools, to integers, to rows; Scale's closures. -/
import Derived.Test.YtnocgagoaldfnaaGreatD16
import Derived.Test.YtnocgagoaldfnaaGreatD37
set_option linter.unusedVariables false
set_option linter.unusedSimpArgs false
set_option linter.unusedSectionVars false
namespace Go.Proofs.YtnocgagoaldfnaaGreat
open Go.RowKit
abbrev tBo : TypeId:=4
theorem Tryz.infoBo : (Tryz.prog.info? tBo).map (fun i=>(i.zero,i.size,i.bytes)) = some (some (.bool false),1,1):=by kernel_rfl
def bArr (n : Nat) (g : Nat->Bool) : Array Value:=((List.range n).map fun i=>Value.bool (g i)).toArray
theorem bArr_get {n : Nat} {g : Nat->Bool} {i : Nat} (h : i < n) : (bArr n g)[i]? = some (.bool (g i)):=by simp [bArr,h]
theorem bArr_set {n : Nat} {g : Nat->Bool} {i : Nat} {z : Bool} : (bArr n g).setIfInBounds i (.bool z) = bArr n (fun t=>if t = i then z else g t):=by
 apply Array.ext
 ·simp [bArr]
 ·intro a h1 h2
  by_cases e : a = i
  ·subst e; simp [bArr]
  ·have : i ≠ a:=fun h=>e h.symm
   simp [bArr,this,e]
theorem bArr_congr {n : Nat} {f g : Nat->Bool} (h : ∀t,t < n->f t = g t) : bArr n f = bArr n g:=by
 unfold bArr
 rw [List.map_congr_left fun t ht=>by rw [h t (List.mem_range.1 ht)]]
theorem madeB (n : Nat) : madeCells (Value.bool false).cells (n * 1) = bArr n (fun _=>false):=by
 apply Array.ext
 ·simp [madeCells,bArr]
 ·intro i h1 h2
  simp [madeCells,bArr,Nat.mod_one,Value.cells]
theorem mkB (m : Int) (n : Nat) (hm : m = n) (h : n<=1099511627776) (W : World) :
  (Instr.makeSlice 124 (.int .i64 m) (.int .i64 m)).run Tryz.prog W = .ok (.slice (some ⟨W.heap.size,0,none⟩) n n) (W.alloc (.cells (bArr n (fun _=>false)) tBo)):=by
 subst hm
 obtain ⟨i0,hi,hz0,hz1,hz2⟩:=info_parts Tryz.infoBo
 have:=run_make_rowN (P:=Tryz.prog) 124 tBo i0 _ Tryz.underlying124 hi hz0 .i64 .i64 n n (Nat.le_refl _) (by rw [hz2]; omega) oM W
 rw [this,hz1,madeB]
set_option maxHeartbeats 2000000 in
set_option maxRecDepth 20000 in
theorem index_any (b n cap : Nat) (g : Nat->Bool) (w : World) (h : Blk w b tBo (bArr n g)) (hn : n<=1000000) (hc : n<=cap) (hc2 : cap<=9223372036854775807) :
  Calls Tryz.prog 129 #[.slice (some ⟨b,0,none⟩) n cap,.bool false] w fun e w'=>(∃r : Int,e = .returned (.int .i64 r)/\((r = -1/\∀i,i < n->g i = true) ∨ ∃i : Nat,r = i/\i < n/\g i = false))/\Below w.heap.size w w':=by
 go_enter Tryz.func129,Tryz.ntmps129
 go_wp2
 go_loopw [8] (fun iv wr=>∃k : Nat,k<=n/\iv = .int .i64 k/\Below w.heap.size w wr/\HidS (∀i,i < k->g i = true)) (fun iv _=>n - (intOf iv).toNat)
 case atStart=>exact ⟨0,by omega,rfl,Below.refl _ _,⟨fun i hi=>by omega⟩⟩
 case round=>
  obtain ⟨k,hk,rfl,hb,hall⟩:=hrel
  have hB:=h.below hb
  by_cases hlt : k < n
  ·have c1:=(hB.cell k).trans (bArr_get hlt)
   by_cases hg : g k = false
   ·rw [hg] at c1
    have HG:=HidS.mk hg
    clear hg
    go_wp2
    go_ret
    exact ⟨⟨k,rfl,.inr ⟨k,rfl,hlt,HG.out⟩⟩,hb⟩
   ·have hg' : g k = true:=by cases hh : g k with | true=>rfl | false=>exact absurd hh hg
    rw [hg'] at c1
    have HG:=HidS.mk hg'
    clear hg hg'
    go_wp2
    go_roundw
    case rel=>
     refine ⟨k + 1,by omega,by simp,hb,⟨fun i hi=>?_⟩⟩
     by_cases e : i = k
     ·rw [e]; exact HG.out
     ·exact hall.out i oM
    case measure=>simp [intOf]; omega
  ·obtain rfl : k = n:=by omega
   go_wp2
   go_ret
   exact ⟨⟨-1,rfl,.inl ⟨rfl,hall.out⟩⟩,hb⟩
set_option maxHeartbeats 2000000 in
set_option maxRecDepth 20000 in
theorem contains_any (b n cap : Nat) (g : Nat->Bool) (w : World) (h : Blk w b tBo (bArr n g)) (hn : n<=1000000) (hc : n<=cap) (hc2 : cap<=9223372036854775807) :
  Calls Tryz.prog 107 #[.slice (some ⟨b,0,none⟩) n cap,.bool false] w fun e w'=>e = .returned (.bool (decide (¬ ∀i,i < n->g i = true)))/\Below w.heap.size w w':=by
 obtain ⟨ans,hans⟩ : ∃ans : Bool,decide (¬ ∀i,i < n->g i = true) = ans:=⟨_,rfl⟩
 rw [hans]
 have HA:=HidS.mk hans
 clear hans
 go_enter Tryz.func107,Tryz.ntmps107
 go_wp2_with fail
 refine (index_any b n cap g w h hn hc hc2).mono ?_
 rintro e w1 ⟨⟨r,rfl,hr⟩,hb1⟩
 rcases hr with ⟨rfl,hall⟩ | ⟨i,rfl,hi,hg⟩
 ·have HL:=HidS.mk hall
  clear hall
  go_wp2
  go_ret
  refine ⟨?_,hb1⟩
  have h3 : ans = false:=by rw [<-HA.out]; exact decide_eq_false (fun hh=>hh HL.out)
  rw [h3]
  rfl
 ·have HG:=HidS.mk hg
  clear hg
  go_wp2
  go_ret
  refine ⟨?_,hb1⟩
  have h3 : ans = true:=by rw [<-HA.out]; exact decide_eq_true (fun hh=>by have h3:=HG.out; rw [hh i hi] at h3; cases h3)
  rw [h3]
  rfl
set_option maxHeartbeats 2000000 in
set_option maxRecDepth 20000 in
theorem eqcmp_any (v1 v2 : Value) (z1 z2 : Int) (w : World) (h1 : IntV w v1 z1) (h2 : IntV w v2 z2) :
  Calls Tryz.prog 105 #[v1,v2] w fun e w'=>e = .returned (.bool (decide (z1 = z2)))/\Below w.heap.size w w':=by
 obtain ⟨neg1,ao1,n1,cap1,xs,rfl,i1⟩:=id h1
 obtain ⟨neg2,ao2,n2,cap2,ys,rfl,i2⟩:=id h2
 clear i1 i2
 have hd : decide (z1 = z2) = decide (cmpI z1 z2 = 0):=decide_eq_decide.2 ⟨fun h=>cmpI_eq h,fun h=>cmpI_inv.2.1 h⟩
 rw [hd]
 clear hd
 go_enter Tryz.func105,Tryz.ntmps105
 go_upto_region 1 with (fail)
 refine wp_world ?_
 intro W0 hW0
 obtain ⟨hB0,bx1,bx2,hs0⟩:=world2 hW0
 obtain ⟨c1,c2,c3,c4⟩:=bx1.two
 obtain ⟨d1,d2,d3,d4⟩:=bx2.two
 go_wp2_with fail
 refine (cmp_any _ _ z1 z2 W0 (h1.ext (lx hB0)).weak (h2.ext (lx hB0)).weak).mono ?_
 rintro e w1 ⟨rfl,hb1⟩
 obtain ⟨k0,hk0⟩ : ∃k0,cmpI z1 z2 = k0:=⟨_,rfl⟩
 rw [hk0]
 go_wp2
 go_ret
 exact ⟨by first | rfl | (rw [hk0]; rfl) | (rw [hk0]; simp),nx hB0 hb1⟩
def LastsB (P : World->Value->Prop) : Prop:=∀w w' v,Below w.heap.size w w'->P w v->P w' v
theorem lastsB_int (z : Int) : LastsB (fun w v=>IntV w v z):=fun _ _ _ e h=>h.ext (lx e)
theorem lastsB_eq (x : Value) : LastsB (fun _ v=>v = x):=fun _ _ _ _ h=>h
theorem lastsB_mat (R C : Int) (M : List (List Int)) : LastsB (fun w v=>MatV w v R C M):=fun _ _ _ e h=>h.below e
theorem lastsB_vec (zs : List Int) : LastsB (fun w v=>VecV w v zs):=fun _ _ _ e h=>h.below e
def wellRV (N : Nat) (vs : List VS) : Bool:=decide (vs.map (·.slot)).Nodup && decide (vs.map (·.op)).Nodup && (vs.map (·.slot)).all (fun s=>decide (s < N))
structure RV (W : World) (T0 : Array Value) (vs : List VS) (L : Array Bool) (T : Array Value) (w : World) : Prop where
 wf : wellRV T0.size vs = true
 lv : ∀s ∈ vs,LastsB s.P
 size : T.size = T0.size
 keep : ∀j,(∀s ∈ vs,s.slot ≠ j)->T[j]? = T0[j]?
 bel : Below W.heap.size W w
 val : ∀s ∈ vs,L[s.op]? = some true->∃v,T[s.slot]? = some v/\s.P w v
section
variable {W : World} {T0 : Array Value} {vs : List VS} {L : Array Bool} {T : Array Value} {w w' : World}
theorem RV.start (hwf : wellRV T0.size vs = true:=by kernel_rfl) (hv : ∀s ∈ vs,LastsB s.P:=by repeat' (first | exact lastsB_int _ | exact lastsB_eq _ | exact lastsB_mat _ _ _ | exact lastsB_vec _ | assumption | refine List.forall_mem_cons.2 ⟨?_,?_⟩ | exact List.forall_mem_nil _)) {n : Nat} : RV W T0 vs (Array.replicate n false) T0 W.drew:=
 ⟨hwf,hv,rfl,fun _ _=>rfl,dr _,fun s _ h=>by
  rw [Array.getElem?_replicate] at h
  split at h <;> simp at h⟩
theorem RV.world (h : RV W T0 vs L T w) (hb : Below w.heap.size w w') : RV W T0 vs L T w':=
 ⟨h.wf,h.lv,h.size,h.keep,nx h.bel hb,fun s hs hl=>by
  obtain ⟨v,h1,h2⟩:=h.val s hs hl
  exact ⟨v,h1,h.lv s hs _ _ _ hb h2⟩⟩
theorem RV.value {k : Nat} {v : Value} (h : RV W T0 vs L T w) (s : VS) (hs : s ∈ vs) (hk : s.op = k) (hP : s.P w v) : RV W T0 vs (L.setIfInBounds k true) (T.setIfInBounds s.slot v) w:=by
 subst hk
 have hwf:=h.wf
 unfold wellRV at hwf
 simp only [Bool.and_eq_true,decide_eq_true_eq,List.all_eq_true] at hwf
 obtain ⟨⟨w1,w2⟩,w3⟩:=hwf
 have hslot : s.slot < T0.size:=w3 _ (List.mem_map.2 ⟨s,hs,rfl⟩)
 refine ⟨h.wf,h.lv,by simp [h.size],fun j h1=>by rw [Array.getElem?_setIfInBounds_ne (h1 s hs)]; exact h.keep j h1,h.bel,?_⟩
 intro t ht hl
 by_cases he : t = s
 ·subst he
  exact ⟨v,by rw [Array.getElem?_setIfInBounds_self_of_lt (by rw [h.size]; exact hslot)],hP⟩
 ·have n1 : t.op ≠ s.op:=fun e=>he (inj_of_nodup w2 ht hs e)
  have n2 : t.slot ≠ s.slot:=fun e=>he (inj_of_nodup w1 ht hs e)
  obtain ⟨u,h1,h2⟩:=h.val t ht (set_true hl (Ne.symm n1))
  exact ⟨u,by rw [Array.getElem?_setIfInBounds_ne (Ne.symm n2)]; exact h1,h2⟩
theorem RV.v {s : VS} (h : RV W T0 vs L T w) (hs : s ∈ vs) (hl : L[s.op]? = some true) : ∃v,T[s.slot]? = some v/\s.P w v:=h.val s hs hl
theorem RV.y {k : Nat} {v : Value} (h : RV W T0 vs L T w) {s : VS} (hs : s ∈ vs) (hP : s.P w v) (hk : s.op = k:=by rfl) : RV W T0 vs (L.setIfInBounds k true) (T.setIfInBounds s.slot v) w:=h.value s hs hk hP
theorem RV.cell {b o : Nat} {v : Value} (h : RV W T0 vs L T w) (hc : W.cell? ⟨b,o,none⟩ = some v) : w.cell? ⟨b,o,none⟩ = some v:=kc_below hc h.bel
end
theorem eqcmpT (v1 v2 : Value) (z1 z2 : Int) (w : World) (h1 : IntV w v1 z1) (h2 : IntV w v2 z2) :
  Calls Tryz.prog 105 #[v1,v2] w fun e w'=>∃v,e = .returned v/\v = .bool (decide (z1 = z2))/\Below w.heap.size w w':=by
 refine (eqcmp_any v1 v2 z1 z2 w h1 h2).mono ?_
 rintro e w' ⟨rfl,hb⟩
 exact ⟨_,rfl,rfl,hb⟩
def uptoB (g : Nat->Bool) (j : Nat) : Nat->Bool:=fun t=>if t < j then g t else false
theorem uptoB_step {n : Nat} {g : Nat->Bool} {j : Nat} : bArr n (fun t=>if t = j then g j else uptoB g j t) = bArr n (uptoB g (j + 1)):=
 bArr_congr fun t _=>by
  unfold uptoB
  by_cases h : t = j
  ·subst h; rw [if_pos rfl,if_pos oM]
  ·rw [if_neg h]
   by_cases h2 : t < j
   ·rw [if_pos h2,if_pos oM]
   ·rw [if_neg h2,if_neg oM]
set_option maxHeartbeats 4000000 in
set_option maxRecDepth 20000 in
theorem combB_any (v1 v2 : Value) (zs ys : List Int) (n : Nat) (w : World) (h1 : VecV w v1 zs) (h2 : VecV w v2 ys) (hl1 : zs.length = n) (hl2 : ys.length = n) (hn : n<=1000000) :
  Calls Tryz.prog 108 #[v1,v2,.func (.func 105) #[] #[]] w fun e w'=>
   e = .returned (.slice (some ⟨w.heap.size,0,none⟩) n n)/\Blk w' w.heap.size tBo (bArr n (fun j=>decide (zs.getD j 0 = ys.getD j 0)))/\Below w.heap.size w w':=by
 obtain ⟨ao,n1,cap,rfl,e1,e3,e4,-⟩:=id h1
 obtain ⟨bo,n2,bcap,rfl,f1,f3,f4,-⟩:=id h2
 obtain rfl : n = n1:=by omega
 obtain rfl : n = n2:=by omega
 have hmk:=fun W=>mkB (n : Int) n rfl oM W
 have HL1:=HidS.mk hl1
 have HL2:=HidS.mk hl2
 obtain ⟨G,hG⟩ : ∃G : Nat->Bool,(fun j=>decide (zs.getD j 0 = ys.getD j 0)) = G:=⟨_,rfl⟩
 rw [hG]
 have HG : HidS (∀t,G t = decide (zs.getD t 0 = ys.getD t 0)):=⟨fun t=>by rw [<-hG]⟩
 clear hl1 hl2 e1 f1 hG
 go_enter Tryz.func108,Tryz.ntmps108
 go_upto_region 2 with (fail)
 refine wp_world ?_
 intro W0 hW0
 obtain ⟨hB0,bA,hs0⟩:=world1 hW0
 have hst : bArr n (fun _=>false) = bArr n (uptoB G 0):=bArr_congr fun t _=>by unfold uptoB; rw [if_neg oM]
 rw [hst] at bA
 clear hW0 hmk hst
 go_wp2
 go_loopw [14] (fun jv wr=>∃j : Nat,j<=n/\jv = .int .i64 j/\Below w.heap.size w wr/\Blk wr w.heap.size tBo (bArr n (uptoB G j))) (fun jv _=>n - (intOf jv).toNat)
 case atStart=>exact ⟨0,by omega,rfl,hB0,bA⟩
 case round=>
  obtain ⟨j,hj,rfl,hb,bA⟩:=hrel
  by_cases hlt : j < n
  ·obtain ⟨b1,z1,s1,a1,l1,c1,rfl,hbl1,hz1,p1,p2,hv1⟩:=(h1.below hb).cell (k:=j) (by rw [HL1.out]; exact hlt)
   obtain ⟨b2,z2,s2,a2,l2,c2,rfl,hbl2,hz2,q1,q2,hv2⟩:=(h2.below hb).cell (k:=j) (by rw [HL2.out]; exact hlt)
   have hgj : HidS (decide (z1 = z2) = G j):=⟨by rw [HG.out,getD_of hz1,getD_of hz2]⟩
   clear hz1 hz2
   have lA:=bA.lt
   go_upto_region 5 with (fail)
   refine wp_region_headed 13 rfl (RI wr (wr.heap.size) _ 45
     [⟨0,17,fun _ v=>v = .slice (some ⟨w.heap.size,0,none⟩) n n⟩,⟨1,18,fun _ v=>v = .int .i64 j⟩,⟨2,19,fun _ v=>v = .func (.func 105) #[] #[]⟩,⟨3,20,fun _ v=>v = .slice (some ⟨b1,0,none⟩) n cap⟩,⟨4,21,fun _ v=>v = .int .i64 j⟩,⟨5,22,fun _ v=>v = .pointer (some ⟨b1,j * 2,none⟩)⟩,⟨6,23,fun _ v=>v = .agg #[.bool s1,.slice a1 l1 c1]⟩,⟨7,24,fun _ v=>v = .slice (some ⟨b2,0,none⟩) n bcap⟩,⟨8,25,fun _ v=>v = .int .i64 j⟩,⟨9,26,fun _ v=>v = .pointer (some ⟨b2,j * 2,none⟩)⟩,⟨10,27,fun _ v=>v = .agg #[.bool s2,.slice a2 l2 c2]⟩,⟨11,28,fun _ v=>v = .bool (decide (z1 = z2))⟩,⟨12,29,fun _ v=>v = .pointer (some ⟨w.heap.size,j,none⟩)⟩]
     [] []) kR RI.start ?fin1 ?steps1
   case steps1=>
    refine ⟨?_,?_,?_,?_,?_,?_,?_,?_,?_,?_,?_,?_,?_,trivial⟩ <;> (intro L T wS hL hd hcl hI K hK; try refine step_wanted rfl ?_)
    ·have zt : T[7]? = some (.slice (some ⟨w.heap.size,0,none⟩) n n):=hI.keep 7 sI sI
     go_simp
     exact hK _ _ (hI.y mm0 rfl)
    ·have zt : T[8]? = some (.int .i64 j):=hI.keep 8 sI sI
     go_simp
     exact hK _ _ (hI.y mm1 rfl)
    ·have zt : T[2]? = some (.func (.func 105) #[] #[]):=hI.keep 2 sI sI
     go_simp
     exact hK _ _ (hI.y mm2 rfl)
    ·have zt : T[0]? = some (.slice (some ⟨b1,0,none⟩) n cap):=hI.keep 0 sI sI
     go_simp
     exact hK _ _ (hI.y mm3 rfl)
    ·have zt : T[8]? = some (.int .i64 j):=hI.keep 8 sI sI
     go_simp
     exact hK _ _ (hI.y mm4 rfl)
    ·obtain ⟨v3,zt3,rfl⟩:=hI.v mm3 (hd 3)
     obtain ⟨v4,zt4,rfl⟩:=hI.v mm4 (hd 4)
     go_simp
     exact hK _ _ (hI.y mm5 rfl)
    ·obtain ⟨v5,zt5,rfl⟩:=hI.v mm5 (hd 5)
     have cc0:=hI.cell p1 oM nom
     have cc1:=hI.cell p2 oM nom
     go_simp
     exact hK _ _ (hI.y mm6 rfl)
    ·have zt : T[1]? = some (.slice (some ⟨b2,0,none⟩) n bcap):=hI.keep 1 sI sI
     go_simp
     exact hK _ _ (hI.y mm7 rfl)
    ·have zt : T[8]? = some (.int .i64 j):=hI.keep 8 sI sI
     go_simp
     exact hK _ _ (hI.y mm8 rfl)
    ·obtain ⟨v7,zt7,rfl⟩:=hI.v mm7 (hd 7)
     obtain ⟨v8,zt8,rfl⟩:=hI.v mm8 (hd 8)
     go_simp
     exact hK _ _ (hI.y mm9 rfl)
    ·obtain ⟨v9,zt9,rfl⟩:=hI.v mm9 (hd 9)
     have cc0:=hI.cell q1 oM nom
     have cc1:=hI.cell q2 oM nom
     go_simp
     exact hK _ _ (hI.y mm10 rfl)
    ·obtain ⟨v2,zt2,rfl⟩:=hI.v mm2 (hd 2)
     obtain ⟨v6,zt6,rfl⟩:=hI.v mm6 (hd 6)
     obtain ⟨v10,zt10,rfl⟩:=hI.v mm10 (hd 10)
     go_simp
     refine (eqcmpT _ _ z1 z2 _ (hv1.ext hI.lext) (hv2.ext hI.lext)).mono ?_
     rintro e wa ⟨v,rfl,hv,hba⟩
     exact hK _ _ ((hI.world hba).y mm11 hv)
    ·obtain ⟨v0,zt0,rfl⟩:=hI.v mm0 (hd 0)
     obtain ⟨v1,zt1,rfl⟩:=hI.v mm1 (hd 1)
     go_simp
     exact hK _ _ (hI.y mm12 rfl)
   intro T w9 hI
   obtain ⟨va0,q0,rfl⟩:=hI.v mm0 rfl
   obtain ⟨va1,q1,rfl⟩:=hI.v mm1 rfl
   obtain ⟨va2,q2,rfl⟩:=hI.v mm2 rfl
   obtain ⟨va3,q3,rfl⟩:=hI.v mm3 rfl
   obtain ⟨va4,q4,rfl⟩:=hI.v mm4 rfl
   obtain ⟨va5,q5,rfl⟩:=hI.v mm5 rfl
   obtain ⟨va6,q6,rfl⟩:=hI.v mm6 rfl
   obtain ⟨va7,q7,rfl⟩:=hI.v mm7 rfl
   obtain ⟨va8,q8,rfl⟩:=hI.v mm8 rfl
   obtain ⟨va9,q9,rfl⟩:=hI.v mm9 rfl
   obtain ⟨va10,q10,rfl⟩:=hI.v mm10 rfl
   obtain ⟨va11,q11,ha11⟩:=hI.v mm11 rfl
   obtain ⟨va12,q12,rfl⟩:=hI.v mm12 rfl
   have hT:=tmps_set [(17,.slice (some ⟨w.heap.size,0,none⟩) n n),(18,.int .i64 j),(19,.func (.func 105) #[] #[]),(20,.slice (some ⟨b1,0,none⟩) n cap),(21,.int .i64 j),(22,.pointer (some ⟨b1,j * 2,none⟩)),(23,.agg #[.bool s1,.slice a1 l1 c1]),(24,.slice (some ⟨b2,0,none⟩) n bcap),(25,.int .i64 j),(26,.pointer (some ⟨b2,j * 2,none⟩)),(27,.agg #[.bool s2,.slice a2 l2 c2]),(28,va11),(29,.pointer (some ⟨w.heap.size,j,none⟩))]
    (fun j hj=>hI.keep j (by simp only [List.forall_mem_cons] at hj ⊢; simp [hj]) (by simp only [List.forall_mem_cons] at hj ⊢; simp [hj]))
    (by simp only [List.forall_mem_cons]; simp [q0,q1,q2,q3,q4,q5,q6,q7,q8,q9,q10,q11,q12]) hI.size
   have hlw9:=hI.lext
   have hbw9:=hI.bel (wr.heap.size) oM nom
   have holdw9:=hI.old
   clear hI
   simp only [List.foldl_cons,List.foldl_nil,List.setIfInBounds_toArray,List.set_cons_zero,List.set_cons_succ,ptr] at hT
   subst hT
   clear q0 q1 q2 q3 q4 q5 q6 q7 q8 q9 q10 q11 q12
   simp only [List.drop_succ_cons,List.drop_zero]
   obtain rfl : va11 = .bool (decide (z1 = z2)):=ha11
   rw [hgj.out]
   have bA:=bA.below hbw9
   have k1:=(bA.cell j).trans (bArr_get hlt)
   have k2:=bA.frozen j
   have hset:=bA.set_ j (.bool (G j))
   rw [bArr_set,uptoB_step] at hset
   clear p1 p2 q1 q2
   go_wp2
   go_roundw
   case rel=>exact ⟨j + 1,by omega,by simp,bset (nx hb hbw9) (Nat.le_refl _) _ _,hset⟩
   case measure=>simp [intOf]; omega
  ·obtain rfl : j = n:=by omega
   have hq : bArr j (uptoB G j) = bArr j G:=bArr_congr fun t ht=>by unfold uptoB; rw [if_pos ht]
   rw [hq] at bA
   go_wp2
   go_ret
   exact ⟨rfl,bA,hb⟩
set_option maxHeartbeats 2000000 in
set_option maxRecDepth 20000 in
theorem scale1_any (v1 v2 : Value) (z k : Int) (kb : Nat) (x y : Value) (w : World) (h1 : IntV w v1 z) (h2 : ∃z2,IntV w v2 z2) (hk : Blk w kb tI #[x,y]) (hkv : IntV w (.agg #[x,y]) k) (s1 : Sm z) (s2 : Sm k) :
  Calls Tryz.prog 88 #[v1,v2,.pointer (some ⟨kb,0,none⟩)] w (RetInt w (k * z)):=by
 obtain ⟨neg1,ao1,n1,cap1,xs,rfl,i1⟩:=id h1
 obtain ⟨z2,h2⟩:=h2
 obtain ⟨neg2,ao2,n2,cap2,ys,rfl,i2⟩:=id h2
 obtain ⟨kn,ka,kl,kc,rfl,rfl⟩:=hkv.two
 have HS1:=HidS.mk s1
 have HS2:=HidS.mk s2
 clear i1 i2 s1 s2 h2
 go_enter Tryz.func88,Tryz.ntmps88
 go_upto_region 1 with (fail)
 refine wp_world ?_
 intro W0 hW0
 obtain ⟨hB0,bx1,bx2,br,hs0⟩:=world3 hW0
 obtain ⟨c1,c2,c3,c4⟩:=bx1.two
 obtain ⟨d1,d2,d3,d4⟩:=(hk.below hB0).two
 go_wp2_with fail
 refine (mul_any _ _ k z W0 (hkv.ext (lx hB0)).weak (h1.ext (lx hB0)).weak HS2.out HS1.out).mono ?_
 rintro e w1 ⟨v,rfl,hv,hb1⟩
 obtain ⟨pn,pa,pl,pc,px,rfl,hpx⟩:=id hv
 have HPX:=Lib.hid hpx
 have br:=br.below hb1
 obtain ⟨e1,e2,e3,e4⟩:=br.two
 clear hpx
 go_wp2
 exact bodyPost_int rfl rfl rfl (br.put2 _ _) (hv.ext (br.lext2 dE _ _)) (bset (bset (nx hB0 hb1) oM 0 _) oM 1 _)
set_option maxHeartbeats 4000000 in
set_option maxRecDepth 20000 in
theorem combI_any (v1 v2 : Value) (zs ys : List Int) (k : Int) (kb n : Nat) (x y : Value) (w : World) (h1 : VecV w v1 zs) (h2 : VecV w v2 ys) (hl1 : zs.length = n) (hl2 : ys.length = n) (hn : n<=1000000) (hk : Blk w kb tI #[x,y]) (hkv : IntV w (.agg #[x,y]) k)
  (hS : ∀z ∈ zs,Sm z) (s2 : Sm k) :
  Calls Tryz.prog 116 #[v1,v2,.func (.func 88) #[] #[.pointer (some ⟨kb,0,none⟩)]] w fun e w'=>
   e = .returned (.slice (some ⟨w.heap.size,0,none⟩) n n)/\RowAt w' w.heap.size (genV n (fun j=>k * zs.getD j 0))/\Below w.heap.size w w':=by
 obtain ⟨ao,n1,cap,rfl,e1,e3,e4,-⟩:=id h1
 obtain ⟨bo,n2,bcap,rfl,f1,f3,f4,-⟩:=id h2
 obtain rfl : n = n1:=by omega
 obtain rfl : n = n2:=by omega
 have hmk:=fun W=>mkI (n : Int) n rfl oM W
 have HL1:=HidS.mk hl1
 have HL2:=HidS.mk hl2
 have HS:=HidS.mk hS
 have HK:=HidS.mk s2
 obtain ⟨G,hG⟩ : ∃G : Nat->Int,(fun j=>k * zs.getD j 0) = G:=⟨_,rfl⟩
 rw [hG]
 have HG : HidS (∀t,G t = k * zs.getD t 0):=⟨fun t=>by rw [<-hG]⟩
 clear hl1 hl2 e1 f1 hG hS s2
 go_enter Tryz.func116,Tryz.ntmps116
 go_upto_region 2 with (fail)
 refine wp_world ?_
 intro W0 hW0
 obtain ⟨hB0,bA,hs0⟩:=world1 hW0
 have hA : RowAt W0 w.heap.size (genV n (uptoV G (fun _=>0) 0)):=by
  have h4:=row_zero w n
  have h5 : List.replicate n (0 : Int) = genV n (uptoV G (fun _=>0) 0):=by
   apply List.ext_getElem
   ·simp [genV]
   ·intro i h1 h2; simp [genV,uptoV]
  rw [h5] at h4
  rw [hW0.out]
  exact h4
 clear hW0 hmk bA
 go_wp2
 go_loopw [14] (fun jv wr=>∃j : Nat,j<=n/\jv = .int .i64 j/\Below w.heap.size w wr/\RowAt wr w.heap.size (genV n (uptoV G (fun _=>0) j))) (fun jv _=>n - (intOf jv).toNat)
 case atStart=>exact ⟨0,by omega,rfl,hB0,hA⟩
 case round=>
  obtain ⟨j,hj,rfl,hb,hA⟩:=hrel
  by_cases hlt : j < n
  ·obtain ⟨b1,z1,s1,a1,l1,c1,rfl,hbl1,hz1,p1,p2,hv1⟩:=(h1.below hb).cell (k:=j) (by rw [HL1.out]; exact hlt)
   obtain ⟨b2,z2,s2,a2,l2,c2,rfl,hbl2,hz2,q1,q2,hv2⟩:=(h2.below hb).cell (k:=j) (by rw [HL2.out]; exact hlt)
   have hgj : HidS (k * z1 = G j):=⟨by rw [HG.out,getD_of hz1]⟩
   have S1 : HidS (Sm z1):=⟨HS.out _ (List.mem_of_getElem? hz1)⟩
   have hkr:=hk.below hb
   have hkvr:=hkv.ext (lx hb)
   have lkb:=hkr.lt
   clear hz1 hz2
   have lA:=hA.lt
   go_upto_region 5 with (fail)
   refine wp_region_headed 13 rfl (RI wr (wr.heap.size) _ 45
     [⟨0,17,fun _ v=>v = .slice (some ⟨w.heap.size,0,none⟩) n n⟩,⟨1,18,fun _ v=>v = .int .i64 j⟩,⟨2,19,fun _ v=>v = .func (.func 88) #[] #[.pointer (some ⟨kb,0,none⟩)]⟩,⟨3,20,fun _ v=>v = .slice (some ⟨b1,0,none⟩) n cap⟩,⟨4,21,fun _ v=>v = .int .i64 j⟩,⟨5,22,fun _ v=>v = .pointer (some ⟨b1,j * 2,none⟩)⟩,⟨6,23,fun _ v=>v = .agg #[.bool s1,.slice a1 l1 c1]⟩,⟨7,24,fun _ v=>v = .slice (some ⟨b2,0,none⟩) n bcap⟩,⟨8,25,fun _ v=>v = .int .i64 j⟩,⟨9,26,fun _ v=>v = .pointer (some ⟨b2,j * 2,none⟩)⟩,⟨10,27,fun _ v=>v = .agg #[.bool s2,.slice a2 l2 c2]⟩,⟨11,28,fun w v=>IntV w v (k * z1)⟩,⟨12,29,fun _ v=>v = .pointer (some ⟨w.heap.size,j * 2,none⟩)⟩]
     [] []) kR RI.start ?fin2 ?steps2
   case steps2=>
    refine ⟨?_,?_,?_,?_,?_,?_,?_,?_,?_,?_,?_,?_,?_,trivial⟩ <;> (intro L T wS hL hd hcl hI K hK; try refine step_wanted rfl ?_)
    ·have zt : T[7]? = some (.slice (some ⟨w.heap.size,0,none⟩) n n):=hI.keep 7 sI sI
     go_simp
     exact hK _ _ (hI.y mm0 rfl)
    ·have zt : T[8]? = some (.int .i64 j):=hI.keep 8 sI sI
     go_simp
     exact hK _ _ (hI.y mm1 rfl)
    ·have zt : T[2]? = some (.func (.func 88) #[] #[.pointer (some ⟨kb,0,none⟩)]):=hI.keep 2 sI sI
     go_simp
     exact hK _ _ (hI.y mm2 rfl)
    ·have zt : T[0]? = some (.slice (some ⟨b1,0,none⟩) n cap):=hI.keep 0 sI sI
     go_simp
     exact hK _ _ (hI.y mm3 rfl)
    ·have zt : T[8]? = some (.int .i64 j):=hI.keep 8 sI sI
     go_simp
     exact hK _ _ (hI.y mm4 rfl)
    ·obtain ⟨v3,zt3,rfl⟩:=hI.v mm3 (hd 3)
     obtain ⟨v4,zt4,rfl⟩:=hI.v mm4 (hd 4)
     go_simp
     exact hK _ _ (hI.y mm5 rfl)
    ·obtain ⟨v5,zt5,rfl⟩:=hI.v mm5 (hd 5)
     have cc0:=hI.cell p1 oM nom
     have cc1:=hI.cell p2 oM nom
     go_simp
     exact hK _ _ (hI.y mm6 rfl)
    ·have zt : T[1]? = some (.slice (some ⟨b2,0,none⟩) n bcap):=hI.keep 1 sI sI
     go_simp
     exact hK _ _ (hI.y mm7 rfl)
    ·have zt : T[8]? = some (.int .i64 j):=hI.keep 8 sI sI
     go_simp
     exact hK _ _ (hI.y mm8 rfl)
    ·obtain ⟨v7,zt7,rfl⟩:=hI.v mm7 (hd 7)
     obtain ⟨v8,zt8,rfl⟩:=hI.v mm8 (hd 8)
     go_simp
     exact hK _ _ (hI.y mm9 rfl)
    ·obtain ⟨v9,zt9,rfl⟩:=hI.v mm9 (hd 9)
     have cc0:=hI.cell q1 oM nom
     have cc1:=hI.cell q2 oM nom
     go_simp
     exact hK _ _ (hI.y mm10 rfl)
    ·obtain ⟨v2,zt2,rfl⟩:=hI.v mm2 (hd 2)
     obtain ⟨v6,zt6,rfl⟩:=hI.v mm6 (hd 6)
     obtain ⟨v10,zt10,rfl⟩:=hI.v mm10 (hd 10)
     go_simp
     refine (scale1_any _ _ z1 k kb x y _ (hv1.ext hI.lext) ⟨z2,hv2.ext hI.lext⟩ ((hI.old kb oM sI).trans hkr) (hkvr.ext hI.lext) S1.out HK.out).mono ?_
     rintro e wa ⟨v,rfl,hv,hba⟩
     exact hK _ _ ((hI.world hba).y mm11 hv)
    ·obtain ⟨v0,zt0,rfl⟩:=hI.v mm0 (hd 0)
     obtain ⟨v1,zt1,rfl⟩:=hI.v mm1 (hd 1)
     go_simp
     exact hK _ _ (hI.y mm12 rfl)
   intro T w9 hI
   obtain ⟨va0,q0,rfl⟩:=hI.v mm0 rfl
   obtain ⟨va1,q1,rfl⟩:=hI.v mm1 rfl
   obtain ⟨va2,q2,rfl⟩:=hI.v mm2 rfl
   obtain ⟨va3,q3,rfl⟩:=hI.v mm3 rfl
   obtain ⟨va4,q4,rfl⟩:=hI.v mm4 rfl
   obtain ⟨va5,q5,rfl⟩:=hI.v mm5 rfl
   obtain ⟨va6,q6,rfl⟩:=hI.v mm6 rfl
   obtain ⟨va7,q7,rfl⟩:=hI.v mm7 rfl
   obtain ⟨va8,q8,rfl⟩:=hI.v mm8 rfl
   obtain ⟨va9,q9,rfl⟩:=hI.v mm9 rfl
   obtain ⟨va10,q10,rfl⟩:=hI.v mm10 rfl
   obtain ⟨va11,q11,ha11⟩:=hI.v mm11 rfl
   replace ha11 : IntV w9 va11 (k * z1):=ha11
   obtain ⟨va12,q12,rfl⟩:=hI.v mm12 rfl
   have hT:=tmps_set [(17,.slice (some ⟨w.heap.size,0,none⟩) n n),(18,.int .i64 j),(19,.func (.func 88) #[] #[.pointer (some ⟨kb,0,none⟩)]),(20,.slice (some ⟨b1,0,none⟩) n cap),(21,.int .i64 j),(22,.pointer (some ⟨b1,j * 2,none⟩)),(23,.agg #[.bool s1,.slice a1 l1 c1]),(24,.slice (some ⟨b2,0,none⟩) n bcap),(25,.int .i64 j),(26,.pointer (some ⟨b2,j * 2,none⟩)),(27,.agg #[.bool s2,.slice a2 l2 c2]),(28,va11),(29,.pointer (some ⟨w.heap.size,j * 2,none⟩))]
    (fun j hj=>hI.keep j (by simp only [List.forall_mem_cons] at hj ⊢; simp [hj]) (by simp only [List.forall_mem_cons] at hj ⊢; simp [hj]))
    (by simp only [List.forall_mem_cons]; simp [q0,q1,q2,q3,q4,q5,q6,q7,q8,q9,q10,q11,q12]) hI.size
   have hlw9:=hI.lext
   have hbw9:=hI.bel (wr.heap.size) oM nom
   have holdw9:=hI.old
   clear hI
   simp only [List.foldl_cons,List.foldl_nil,List.setIfInBounds_toArray,List.set_cons_zero,List.set_cons_succ,ptr] at hT
   subst hT
   clear q0 q1 q2 q3 q4 q5 q6 q7 q8 q9 q10 q11 q12
   simp only [List.drop_succ_cons,List.drop_zero]
   obtain ⟨pn,pa,pl,pc,px,rfl,hpx⟩:=id ha11
   have HPX:=Lib.hid hpx
   have hA:=hA.below hbw9
   obtain ⟨zs,za,zl,zc,z1,z2,z3,z4,-⟩:=hA.cell (genV_get hlt)
   have hset:=hA.set (k:=j) (by rw [genV_length]; exact hlt) ha11
   rw [upto_set hgj.out] at hset
   clear hpx p1 p2 q1 q2
   go_wp2
   go_roundw
   case rel=>exact ⟨j + 1,by omega,by simp,bset (bset (nx hb hbw9) (Nat.le_refl _) _ _) (Nat.le_refl _) _ _,hset.1⟩
   case measure=>simp [intOf]; omega
  ·obtain rfl : j = n:=by omega
   have hq : genV j (uptoV G (fun _=>0) j) = genV j G:=genV_congr fun t ht=>by unfold uptoV; rw [if_pos ht]
   rw [hq] at hA
   go_wp2
   go_ret
   exact ⟨rfl,hA,hb⟩
abbrev tF : TypeId:=49
def NewRow (n0 C : Nat) (zs : List Int) : World->Value->Prop:=fun w v=>∃g,v = .slice (some ⟨g,0,none⟩) C C/\n0<=g/\RowAt w g zs
theorem lastsB_row (n0 C : Nat) (zs : List Int) : LastsB (NewRow n0 C zs):=fun _ _ _ e ⟨g,h1,h2,h3⟩=>⟨g,h1,h2,h3.below e⟩
set_option maxHeartbeats 2000000 in
set_option maxRecDepth 20000 in
theorem each1_any (v1 v2 : Value) (zs ys : List Int) (k : Int) (fb kb n : Nat) (x y : Value) (w : World) (h1 : VecV w v1 zs) (h2 : VecV w v2 ys) (hl1 : zs.length = n) (hl2 : ys.length = n) (hn : n<=1000000)
  (hf : Blk w fb tF #[.func (.func 88) #[] #[.pointer (some ⟨kb,0,none⟩)]]) (hk : Blk w kb tI #[x,y]) (hkv : IntV w (.agg #[x,y]) k) (hS : ∀z ∈ zs,Sm z) (s2 : Sm k) :
  Calls Tryz.prog 115 #[v1,v2,.pointer (some ⟨fb,0,none⟩)] w fun e w'=>∃v,e = .returned v/\NewRow w.heap.size n (genV n (fun j=>k * zs.getD j 0)) w' v/\Below w.heap.size w w':=by
 have c1:=hf.cell 0
 have HS:=HidS.mk hS
 have HK:=HidS.mk s2
 obtain ⟨G,hG⟩ : ∃G : Nat->Int,(fun j=>k * zs.getD j 0) = G:=⟨_,rfl⟩
 rw [hG]
 have HG:=HidS.mk hG
 clear hG hS s2
 obtain ⟨ao,n1,cap,rfl,-⟩:=id h1
 obtain ⟨bo,n2,bcap,rfl,-⟩:=id h2
 go_enter Tryz.func115,Tryz.ntmps115
 go_wp2_with fail
 refine (combI_any _ _ zs ys k kb n x y w h1 h2 hl1 hl2 hn hk hkv HS.out HK.out).mono ?_
 rintro e w1 ⟨rfl,hr,hb1⟩
 rw [HG.out] at hr
 go_wp2
 go_ret
 exact ⟨_,rfl,⟨_,rfl,Nat.le_refl _,hr⟩,hb1⟩
end Go.Proofs.YtnocgagoaldfnaaGreat
