/- smith: addTo. smith: rows of matrices are written. -/
import Derived.Test.YtnocgagoaldfnaaGreatD19
set_option linter.unusedVariables false
set_option linter.unusedSimpArgs false
set_option linter.unusedSectionVars false
namespace Go.Proofs.YtnocgagoaldfnaaGreat
open Go.RowKit
structure Only (S : List Nat) (w w' : World) : Prop where
 bel : Below 0 w w'
 lext : LExt w w'
 old : ∀k,k < w.heap.size->k ∉ S->w'.heap[k]? = w.heap[k]?
theorem Only.refl (S : List Nat) (w : World) : Only S w w:=⟨Below.refl _ _,LExt.refl _,fun _ _ _=>rfl⟩
theorem Only.of {w w' : World} (S : List Nat) (h : Below w.heap.size w w') : Only S w w':=⟨h.mono (Nat.zero_le _),lx h,fun k hk _=>h.block k hk⟩
theorem Only.trans {S : List Nat} {a b c : World} (h : Only S a b) (k : Only S b c) : Only S a c:=
 ⟨h.bel.trans k.bel,h.lext.trans k.lext,fun i hi hn=>(k.old i (Nat.lt_of_lt_of_le hi h.bel.size) hn).trans (h.old i hi hn)⟩
theorem Only.mono {S S' : List Nat} {w w' : World} (h : Only S w w') (hs : ∀k,k ∈ S->k ∈ S') : Only S' w w':=⟨h.bel,h.lext,fun k hk hn=>h.old k hk (fun hh=>hn (hs k hh))⟩
theorem RowAt.only {S : List Nat} {w w' : World} {b : Nat} {zs : List Int} (h : RowAt w b zs) (k : Only S w w') (hb : b ∉ S) : RowAt w' b zs:=h.old (k.old b h.lt hb) k.lext
theorem RowAt.vec {w : World} {b n cap : Nat} {zs : List Int} (h : RowAt w b zs) (hn : zs.length = n) (hc : n<=cap) (hc2 : cap<=9223372036854775807) : VecV w (.slice (some ⟨b,0,none⟩) n cap) zs:=
 ⟨_,_,_,rfl,hn,hc,hc2,fun _=>⟨b,rfl,h⟩⟩
def genV (n : Nat) (f : Nat->Int) : List Int:=(List.range n).map f
theorem genV_length (n : Nat) (f : Nat->Int) : (genV n f).length = n:=by simp [genV]
theorem genV_get {n : Nat} {f : Nat->Int} {j : Nat} (h : j < n) : (genV n f)[j]? = some (f j):=by simp [genV,h]
theorem genV_set {n : Nat} {f : Nat->Int} {j : Nat} (z : Int) : (genV n f).set j z = genV n (fun t=>if t = j then z else f t):=by
 apply List.ext_getElem
 ·simp [genV]
 ·intro a h1 h2
  by_cases e : a = j
  ·subst e; simp [genV]
  ·have : j ≠ a:=fun h=>e h.symm
   simp [genV,this,e]
theorem genV_congr {n : Nat} {f g : Nat->Int} (h : ∀t,t < n->f t = g t) : genV n f = genV n g:=by
 unfold genV
 exact List.map_congr_left fun t ht=>h t (List.mem_range.1 ht)
def uptoV (f g : Nat->Int) (j : Nat) : Nat->Int:=fun t=>if t < j then f t else g t
set_option maxHeartbeats 4000000 in
set_option maxRecDepth 20000 in
theorem addto_any (bv bw n capv capw : Nat) (f g : Nat->Int) (kv : Value) (k : Int) (w : World) (hv : RowAt w bv (genV n f)) (hw : RowAt w bw (genV n g)) (hne : bv ≠ bw) (hk : IntV w kv k)
  (hn : n<=1000000) (hcv : n<=capv) (hcv2 : capv<=9223372036854775807) (hcw : n<=capw) (hcw2 : capw<=9223372036854775807)
  (hS : ∀t,t < n->Sm (f t)/\Sm (g t)/\Sm (k * g t)) (hks : Sm k) :
  Calls Tryz.prog 146 #[.slice (some ⟨bv,0,none⟩) n capv,.slice (some ⟨bw,0,none⟩) n capw,kv] w fun e w'=>(∃u,e = .returned u)/\Only [bv] w w'/\RowAt w' bv (genV n (fun t=>f t + k * g t)):=by
 have HS:=HidS.mk hS
 have HK:=HidS.mk hks
 obtain ⟨kn,ka,kl,kc,kx,rfl,hkx⟩:=id hk
 have HKX:=Lib.hid hkx
 clear hS hks hkx
 have hlv:=hv.lt
 have hlw:=hw.lt
 obtain ⟨F,hF⟩ : ∃F : Nat->Int,(fun t=>f t + k * g t) = F:=⟨_,rfl⟩
 rw [hF]
 have HF : HidS (∀t,F t = f t + k * g t):=⟨fun t=>by rw [<-hF]⟩
 clear hF
 go_enter Tryz.func146,Tryz.ntmps146
 go_upto_region 1 with (fail)
 refine wp_world ?_
 intro W0 hW0
 obtain ⟨hB0,bx,hs0⟩:=world1 hW0
 have hv0:=hv.below hB0
 have hw0:=hw.below hB0
 have hk0:=hk.ext (lx hB0)
 have hst : genV n f = genV n (uptoV F f 0):=genV_congr fun t _=>by unfold uptoV; rw [if_neg oM]
 rw [hst] at hv0
 have hO:=Only.of [bv] hB0
 clear hW0 hst hv hw hk
 go_wp2
 go_loopw [10] (fun jv wr=>∃j : Nat,j<=n/\jv = .int .i64 j/\Only [bv] w wr/\Blk wr w.heap.size 45 #[.bool kn,.slice ka kl kc]/\IntV wr (.agg #[.bool kn,.slice ka kl kc]) k/\RowAt wr bw (genV n g)/\RowAt wr bv (genV n (uptoV F f j))) (fun jv _=>n - (intOf jv).toNat)
 case atStart=>exact ⟨0,by omega,rfl,hO,bx,hk0,hw0,hv0⟩
 case round=>
  obtain ⟨j,hj,rfl,hO,bx,hk,hw,hv⟩:=hrel
  by_cases hlt : j < n
  ·obtain ⟨xs,xa,xl,xc,p1,p2,-,-,hx⟩:=hw.cell (genV_get hlt)
   have hlw':=hw.lt
   have hlb:=bx.lt
   go_upto_region 4 with (fail)
   refine wp_world ?_
   intro W6 hW6
   obtain ⟨hB6,T7,hs6⟩:=world1 hW6
   obtain ⟨d1,d2,d3,d4⟩:=T7.two
   have hO:=hO.trans (Only.of [bv] hB6)
   have bx:=bx.below hB6
   have hk:=hk.ext (lx hB6)
   have hw:=hw.below hB6
   have hv:=hv.below hB6
   have hx:=hx.ext (lx hB6)
   clear p1 p2 hW6
   go_wp2_with fail
   refine (sign_any _ (g j) W6 hx.weak).mono ?_
   rintro e w7 ⟨rfl,hb7⟩
   have hO:=hO.trans (Only.of [bv] hb7)
   have bx:=bx.below hb7
   have hk:=hk.ext (lx hb7)
   have hw:=hw.below hb7
   have hv:=hv.below hb7
   have hx:=hx.ext (lx hb7)
   have T7:=T7.below hb7
   clear d1 d2 d3 d4
   by_cases hz0 : g j = 0
   ·rw [cmpI_zero hz0]
    go_wp2
    go_roundw
    case rel=>
     have hq : genV n (uptoV F f j) = genV n (uptoV F f (j + 1)):=genV_congr fun t _=>by
      unfold uptoV
      by_cases h1 : t < j
      ·rw [if_pos h1,if_pos oM]
      ·by_cases h2 : t = j
       ·subst h2
        rw [if_neg h1,if_pos oM,HF.out,hz0,Int.mul_zero,Int.add_zero]
       ·rw [if_neg h1,if_neg oM]
     rw [hq] at hv
     exact ⟨j + 1,by omega,by simp,hO,bx,hk,hw,hv⟩
    case measure=>simp [intOf]; omega
   ·have hc:=cmpI_ne hz0
    obtain ⟨k0,hk0⟩ : ∃k0,cmpI (g j) 0 = k0:=⟨_,rfl⟩
    rw [hk0] at hc ⊢
    clear hk0
    obtain ⟨ys,ya,yl,yc,v1,v2,-,-,hy⟩:=hv.cell (genV_get hlt)
    have hyf : uptoV F f j j = f j:=by unfold uptoV; rw [if_neg oM]
    rw [hyf] at hy
    obtain ⟨d1,d2,d3,d4⟩:=T7.two
    obtain ⟨k1,k2,k3,k4⟩:=bx.two
    have lv:=hv.lt
    have lb:=bx.lt
    have l7:=T7.lt
    have HSJ:=HidS.mk (HS.out j hlt)
    go_upto_region 5 with (fail)
    refine wp_region_headed 11 rfl (RI w7 (w7.heap.size) _ 45
      [⟨0,18,fun _ v=>v = .slice (some ⟨bv,0,none⟩) n capv⟩,⟨1,19,fun _ v=>v = .int .i64 j⟩,⟨2,20,fun _ v=>v = .slice (some ⟨bv,0,none⟩) n capv⟩,⟨3,21,fun _ v=>v = .int .i64 j⟩,⟨4,22,fun _ v=>v = .pointer (some ⟨bv,j * 2,none⟩)⟩,⟨5,23,fun _ v=>v = .agg #[.bool ys,.slice ya yl yc]⟩,⟨6,24,fun _ v=>v = .agg #[.bool kn,.slice ka kl kc]⟩,⟨7,25,fun _ v=>v = .agg #[.bool xs,.slice xa xl xc]⟩,⟨8,26,fun w v=>IntV w v (k * g j)⟩,⟨9,27,fun w v=>IntV w v (f j + k * g j)⟩,⟨10,28,fun _ v=>v = .pointer (some ⟨bv,j * 2,none⟩)⟩]
      [] []) kR RI.start ?fin1 ?steps1
    case steps1=>
     refine ⟨?_,?_,?_,?_,?_,?_,?_,?_,?_,?_,?_,trivial⟩ <;> (intro L T wS hL hd hcl hI K hK; try refine step_wanted rfl ?_)
     ·have zt : T[0]? = some (.slice (some ⟨bv,0,none⟩) n capv):=hI.keep 0 sI sI
      go_simp
      exact hK _ _ (hI.y mm0 rfl)
     ·have zt : T[6]? = some (.int .i64 j):=hI.keep 6 sI sI
      go_simp
      exact hK _ _ (hI.y mm1 rfl)
     ·have zt : T[0]? = some (.slice (some ⟨bv,0,none⟩) n capv):=hI.keep 0 sI sI
      go_simp
      exact hK _ _ (hI.y mm2 rfl)
     ·have zt : T[6]? = some (.int .i64 j):=hI.keep 6 sI sI
      go_simp
      exact hK _ _ (hI.y mm3 rfl)
     ·obtain ⟨v2,zt2,rfl⟩:=hI.v mm2 (hd 2)
      obtain ⟨v3,zt3,rfl⟩:=hI.v mm3 (hd 3)
      go_simp
      exact hK _ _ (hI.y mm4 rfl)
     ·obtain ⟨v4,zt4,rfl⟩:=hI.v mm4 (hd 4)
      have cc0:=hI.cell v1 oM nom
      have cc1:=hI.cell v2 oM nom
      go_simp
      exact hK _ _ (hI.y mm5 rfl)
     ·have zt : T[5]? = some (.pointer (some ⟨w.heap.size,0,none⟩)):=hI.keep 5 sI sI
      have cc0:=hI.cell k1 oM nom
      have cc1:=hI.cell k2 oM nom
      go_simp
      exact hK _ _ (hI.y mm6 rfl)
     ·have zt : T[7]? = some (.pointer (some ⟨wr.heap.size,0,none⟩)):=hI.keep 7 sI sI
      have cc0:=hI.cell d1 oM nom
      have cc1:=hI.cell d2 oM nom
      go_simp
      exact hK _ _ (hI.y mm7 rfl)
     ·obtain ⟨v6,zt6,rfl⟩:=hI.v mm6 (hd 6)
      obtain ⟨v7,zt7,rfl⟩:=hI.v mm7 (hd 7)
      go_simp
      refine (mul_any _ _ k (g j) _ (hk.ext hI.lext).weak (hx.ext hI.lext).weak HK.out HSJ.out.2.1).mono ?_
      rintro e wa ⟨v,rfl,hv,hba⟩
      exact hK _ _ ((hI.world hba).y mm8 hv)
     ·obtain ⟨v5,zt5,rfl⟩:=hI.v mm5 (hd 5)
      obtain ⟨v8,zt8,h8⟩:=hI.v mm8 (hd 8)
      go_simp
      refine (add_any _ _ (f j) (k * g j) _ (hy.ext hI.lext).weak h8.weak HSJ.out.1 HSJ.out.2.2).mono ?_
      rintro e wa ⟨v,rfl,hv,hba⟩
      exact hK _ _ ((hI.world hba).y mm9 hv)
     ·obtain ⟨v0,zt0,rfl⟩:=hI.v mm0 (hd 0)
      obtain ⟨v1,zt1,rfl⟩:=hI.v mm1 (hd 1)
      go_simp
      exact hK _ _ (hI.y mm10 rfl)
    intro T w9 hI
    obtain ⟨va0,q0,rfl⟩:=hI.v mm0 rfl
    obtain ⟨va1,q1,rfl⟩:=hI.v mm1 rfl
    obtain ⟨va2,q2,rfl⟩:=hI.v mm2 rfl
    obtain ⟨va3,q3,rfl⟩:=hI.v mm3 rfl
    obtain ⟨va4,q4,rfl⟩:=hI.v mm4 rfl
    obtain ⟨va5,q5,rfl⟩:=hI.v mm5 rfl
    obtain ⟨va6,q6,rfl⟩:=hI.v mm6 rfl
    obtain ⟨va7,q7,rfl⟩:=hI.v mm7 rfl
    obtain ⟨va8,q8,ha8⟩:=hI.v mm8 rfl
    replace ha8 : IntV w9 va8 (k * g j):=ha8
    obtain ⟨va9,q9,ha9⟩:=hI.v mm9 rfl
    replace ha9 : IntV w9 va9 (f j + k * g j):=ha9
    obtain ⟨va10,q10,rfl⟩:=hI.v mm10 rfl
    have hT:=tmps_set [(18,.slice (some ⟨bv,0,none⟩) n capv),(19,.int .i64 j),(20,.slice (some ⟨bv,0,none⟩) n capv),(21,.int .i64 j),(22,.pointer (some ⟨bv,j * 2,none⟩)),(23,.agg #[.bool ys,.slice ya yl yc]),(24,.agg #[.bool kn,.slice ka kl kc]),(25,.agg #[.bool xs,.slice xa xl xc]),(26,va8),(27,va9),(28,.pointer (some ⟨bv,j * 2,none⟩))]
     (fun j hj=>hI.keep j (by simp only [List.forall_mem_cons] at hj ⊢; simp [hj]) (by simp only [List.forall_mem_cons] at hj ⊢; simp [hj]))
     (by simp only [List.forall_mem_cons]; simp [q0,q1,q2,q3,q4,q5,q6,q7,q8,q9,q10]) hI.size
    have hlw9:=hI.lext
    have hbw9:=hI.bel (w7.heap.size) oM nom
    have holdw9:=hI.old
    clear hI
    simp only [List.foldl_cons,List.foldl_nil,List.setIfInBounds_toArray,List.set_cons_zero,List.set_cons_succ,ptr] at hT
    subst hT
    clear q0 q1 q2 q3 q4 q5 q6 q7 q8 q9 q10
    simp only [List.drop_succ_cons,List.drop_zero]
    obtain ⟨pn,pa,pl,pc,px,rfl,hpx⟩:=id ha9
    have HPX:=Lib.hid hpx
    clear hpx
    have hv9:=hv.below hbw9
    obtain ⟨zs,za,zl,zc,z1,z2,z3,z4,-⟩:=hv9.cell (genV_get hlt)
    have hset:=hv9.set (k:=j) (by rw [genV_length]; exact hlt) ha9
    have hO:=hO.trans (Only.of [bv] hbw9)
    have hk:=hk.ext (lx hbw9)
    have bx:=bx.below hbw9
    have hw:=hw.below hbw9
    have hsz:=hO.bel.size
    go_wp2
    go_roundw
    case rel=>
     have hq : (genV n (uptoV F f j)).set j (f j + k * g j) = genV n (uptoV F f (j + 1)):=by
      rw [genV_set]
      exact genV_congr fun t _=>by
       unfold uptoV
       by_cases h2 : t = j
       ·subst h2
        rw [if_pos rfl,if_pos oM,HF.out]
       ·rw [if_neg h2]
        by_cases h1 : t < j
        ·rw [if_pos h1,if_pos oM]
        ·rw [if_neg h1,if_neg oM]
     rw [hq] at hset
     refine ⟨j + 1,by omega,by simp,hO.trans ⟨bset (bset (Below.refl _ _) (Nat.zero_le _) _ _) (Nat.zero_le _) _ _,hset.2,fun i _ hi=>set2_old _ _ _ _ _ _ _ (by simpa using hi)⟩,(set2_old _ _ _ _ _ _ _ oM).trans bx,hk.ext hset.2,hw.old (set2_old _ _ _ _ _ _ _ (Ne.symm hne)) hset.2,hset.1⟩
    case measure=>simp [intOf]; omega
  ·obtain rfl : j = n:=by omega
   have hq : genV j (uptoV F f j) = genV j F:=genV_congr fun t ht=>by unfold uptoV; rw [if_pos ht]
   rw [hq] at hv
   go_wp2
   exact bodyPost_end (results_none rfl _ _ _) rfl ⟨⟨_,rfl⟩,hO,hv⟩
theorem RowsO.only {w w' : World} {base : Nat} {A : Value} {C : Nat} {bs : List Nat} {M : List (List Int)} {S : List Nat} (h : RowsO w base A C bs M) (ho : Only S w w') (hd : ∀b ∈ bs,b ∉ S) (hr : ∀g ∈ S,∃r,RowAt w g r) : RowsO w' base A C bs M:=by
 refine ⟨⟨h.own.1,?_⟩,h.len,fun k b r h1 h2=>by
  obtain ⟨e1,e2,e3⟩:=h.row k b r h1 h2
  exact ⟨e1,e2,e3.only ho (hd b (List.mem_of_getElem? h1))⟩,h.nodup,h.cb⟩
 rcases h.own.2 with h1 | ⟨g,cap,cur,e1,e2,e3,e4⟩
 ·exact .inl h1
 ·refine .inr ⟨g,cap,cur,e1,e2,?_,e4⟩
  refine (ho.old g (Array.getElem?_eq_some_iff.1 e3).1 ?_).trans e3
  intro hg
  obtain ⟨r,hr⟩:=hr g hg
  have:=own_ne h.own hr
  rw [e1] at this
  exact this rfl
theorem RowsO.setRow {w w' : World} {base : Nat} {A : Value} {C : Nat} {bs : List Nat} {M : List (List Int)} {i b : Nat} {r : List Int} (h : RowsO w base A C bs M) (hb : bs[i]? = some b) (ho : Only [b] w w') (hr : RowAt w' b r) (hl : r.length = C) :
  RowsO w' base A C bs (M.set i r):=by
 have hib:=(List.getElem?_eq_some_iff.1 hb).1
 have hiM : i < M.length:=by rw [h.len]; exact hib
 obtain ⟨r1,r2,r3⟩:=h.row i b M[i] hb (List.getElem?_eq_getElem hiM)
 refine ⟨⟨h.own.1,?_⟩,by simp [h.len],?_,h.nodup,h.cb⟩
 ·rcases h.own.2 with h1 | ⟨g,cap,cur,e1,e2,e3,e4⟩
  ·exact .inl h1
  ·refine .inr ⟨g,cap,cur,e1,e2,?_,e4⟩
   refine (ho.old g (Array.getElem?_eq_some_iff.1 e3).1 ?_).trans e3
   intro hg
   have:=own_ne h.own r3
   rw [e1] at this
   simp at hg
   exact this (by rw [hg]; rfl)
 ·intro k b' r' hk hr'
  by_cases e : k = i
  ·subst e
   rw [hb] at hk
   injection hk with hk
   subst hk
   rw [List.getElem?_set_self hiM] at hr'
   injection hr' with hr'
   subst hr'
   exact ⟨r1,hl,hr⟩
  ·rw [List.getElem?_set_ne (Ne.symm e)] at hr'
   obtain ⟨f1,f2,f3⟩:=h.row k b' r' hk hr'
   have hkb:=(List.getElem?_eq_some_iff.1 hk).1
   have hne : b' ≠ b:=by
    intro hh
    subst hh
    have h1:=(List.getElem?_eq_some_iff.1 hk).2
    have h2:=(List.getElem?_eq_some_iff.1 hb).2
    exact e ((List.getElem_inj h.nodup).1 (h1.trans h2.symm))
   exact ⟨f1,f2,f3.only ho (by simpa using hne)⟩
def addF (F : Nat->Nat->Int) (i j : Nat) (k : Int) : Nat->Nat->Int:=fun a b=>if a = i then F i b + k * F j b else F a b
theorem setRow_add {R C : Nat} {F : Nat->Nat->Int} {i j : Nat} {k : Int} (hi : i < R) : (genM R C F).set i (genV C (fun t=>F i t + k * F j t)) = genM R C (addF F i j k):=by
 apply List.ext_getElem
 ·simp [genM]
 ·intro a h1 h2
  by_cases e : a = i
  ·subst e
   rw [List.getElem_set_self]
   simp [genM,genV,addF]
  ·have e3 : i ≠ a:=fun h=>e h.symm
   rw [List.getElem_set_ne e3]
   simp [genM,addF,e]
theorem RowsO.rowAt {w : World} {base : Nat} {A : Value} {R C : Nat} {bs : List Nat} {F : Nat->Nat->Int} (h : RowsO w base A C bs (genM R C F)) {i : Nat} (hi : i < R) : ∃b,bs[i]? = some b/\RowAt w b (genV C (F i)):=by
 have hl : bs.length = R:=by rw [<-h.len]; simp [genM]
 refine ⟨bs[i],List.getElem?_eq_getElem oM,?_⟩
 exact (h.row i bs[i] (genV C (F i)) (List.getElem?_eq_getElem oM) (genM_row R C F hi)).2.2
theorem addRows {w : World} {base : Nat} {A : Value} {R C : Nat} {bs : List Nat} {F : Nat->Nat->Int} (h : RowsO w base A C bs (genM R C F)) {i j bi bj : Nat} (hi : i < R) (hj : j < R) (hij : i ≠ j) (hbi : bs[i]? = some bi) (hbj : bs[j]? = some bj) (kv : Value) (k : Int)
  (hk : IntV w kv k) (hC : C<=1000000) (hS : ∀t,t < C->Sm (F i t)/\Sm (F j t)/\Sm (k * F j t)) (hks : Sm k) :
  Calls Tryz.prog 146 #[.slice (some ⟨bi,0,none⟩) C C,.slice (some ⟨bj,0,none⟩) C C,kv] w fun e w'=>(∃u,e = .returned u)/\Only [bi] w w'/\RowsO w' base A C bs (genM R C (addF F i j k)):=by
 obtain ⟨b1,e1,r1⟩:=h.rowAt hi
 obtain ⟨b2,e2,r2⟩:=h.rowAt hj
 obtain rfl : b1 = bi:=Option.some.inj (e1.symm.trans hbi)
 obtain rfl : b2 = bj:=Option.some.inj (e2.symm.trans hbj)
 have hne : b1 ≠ b2:=by
  intro hh
  subst hh
  obtain ⟨f1,f2⟩:=List.getElem?_eq_some_iff.1 e1
  obtain ⟨g1,g2⟩:=List.getElem?_eq_some_iff.1 e2
  exact hij ((List.getElem_inj h.nodup).1 (f2.trans g2.symm))
 refine (addto_any b1 b2 C C C (F i) (F j) kv k w r1 r2 hne hk hC (Nat.le_refl _) oM (Nat.le_refl _) oM hS hks).mono ?_
 rintro e w' ⟨hu,ho,hr⟩
 refine ⟨hu,ho,?_⟩
 rw [<-setRow_add hi]
 exact h.setRow e1 ho hr (genV_length _ _)
end Go.Proofs.YtnocgagoaldfnaaGreat
