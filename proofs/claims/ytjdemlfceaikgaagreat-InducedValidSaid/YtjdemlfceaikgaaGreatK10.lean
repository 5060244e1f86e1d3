/- Matrices given by their elements; writing an element. torsionref05.Scale. torsionref05: Copied, Identity. torsionref05: Mul, Product. torsionref05: Sized. torsionref13: Inverse. smith: leading, quotient. smith: addTo. smith: rows of matrices are written. smith: band.add. smith: rows are exchanged. What the echelon form, the reduction and the Smith form of package smith compute, in plain Lean. smith: band.exchange. smith: band.negate. smith: blend. smith: a band's steps, by what they do to its state. smith: band.take. smith: band.reduce. smith: band.echelon. smith: band.twist. Elementary operations on rows: products, inverses, growth; and that smith's echelon form ends. Plain Lean. matrix.New. matrix.Identity. matrix.Transpose. smith: the work under way; work.divide. The law for regions that draw, where two elements of rows are written: at the end, but for operations that may come behind the first store. -/
import Derived.ScopeJumps
import Derived.WalkMore
import Derived.Defers
import Derived.Recover
import Derived.Test.YtjdemlfceaikgaaGreatK02
import Derived.Test.YtjdemlfceaikgaaGreatK08
set_option linter.unusedVariables false
set_option linter.unusedSimpArgs false
set_option linter.unusedSectionVars false
namespace Go.Proofs.YtjdemlfceaikgaaGreat
open Go.RowKit
def genM (R C : Nat) (f : Nat->Nat->Int) : List (List Int):=(List.range R).map fun i=>(List.range C).map (f i)
def ent (M : List (List Int)) (i j : Nat) : Int:=(M.getD i []).getD j 0
theorem genM_congr {R C : Nat} {f g : Nat->Nat->Int} (h : ∀i,i < R->∀j,j < C->f i j = g i j) : genM R C f = genM R C g:=by
 unfold genM
 refine List.map_congr_left fun i hi=>List.map_congr_left fun j hj=>h i (List.mem_range.1 hi) j (List.mem_range.1 hj)
theorem genM_row (R C : Nat) (f : Nat->Nat->Int) {i : Nat} (hi : i < R) : (genM R C f)[i]? = some ((List.range C).map (f i)):=by
 simp [genM,hi]
theorem ent_genM {R C : Nat} {f : Nat->Nat->Int} {i j : Nat} (hi : i < R) (hj : j < C) : ent (genM R C f) i j = f i j:=by
 unfold ent
 rw [getD_of (genM_row R C f hi)]
 simp [List.getD_eq_getElem?_getD,hj]
theorem genM_fits (R C : Nat) (f : Nat->Nat->Int) : Fits R C (genM R C f):=by
 refine ⟨by simp [genM],fun r hr=>?_⟩
 unfold genM at hr
 obtain ⟨i,-,rfl⟩:=List.mem_map.1 hr
 simp
theorem ent_of {M : List (List Int)} {i j : Nat} {r : List Int} {z : Int} (h1 : M[i]? = some r) (h2 : r[j]? = some z) : ent M i j = z:=by
 unfold ent
 rw [getD_of h1,getD_of h2]
theorem fits_genM {R C : Nat} {M : List (List Int)} (h : Fits R C M) : M = genM R C (ent M):=by
 apply List.ext_getElem
 ·rw [h.1]; simp [genM]
 ·intro i h1 h2
  have hi : i < R:=by rw [<-h.1]; exact h1
  have e1 : M[i]? = some M[i]:=List.getElem?_eq_getElem h1
  have hl:=h.2 _ (List.mem_of_getElem? e1)
  apply List.ext_getElem
  ·rw [hl]; simp [genM]
  ·intro j h3 h4
   have:=ent_of e1 (List.getElem?_eq_getElem h3)
   simp [genM,this]
theorem zeros_genM (R C : Nat) : zerosM R C = genM R C (fun _ _=>0):=by
 unfold zerosM genM
 apply List.ext_getElem
 ·simp
 ·intro i h1 h2
  apply List.ext_getElem
  ·simp
  ·intro j h3 h4
   simp
def setM (M : List (List Int)) (i j : Nat) (z : Int) : List (List Int):=M.set i ((M.getD i []).set j z)
theorem setM_genM {R C : Nat} {f : Nat->Nat->Int} {i j : Nat} (z : Int) (hi : i < R) (hj : j < C) : setM (genM R C f) i j z = genM R C (fun i' j'=>if i' = i/\j' = j then z else f i' j'):=by
 unfold setM
 rw [getD_of (genM_row R C f hi)]
 apply List.ext_getElem
 ·simp [genM]
 ·intro a h1 h2
  have ha : a < R:=by simpa [genM] using h2
  by_cases e : a = i
  ·subst e
   rw [List.getElem_set_self]
   apply List.ext_getElem
   ·simp [genM]
   ·intro b h3 h4
    by_cases e2 : b = j
    ·subst e2; simp [genM]
    ·have e3 : j ≠ b:=fun h=>e2 h.symm
     simp [genM,e2,e3]
  ·have e3 : i ≠ a:=fun h=>e h.symm
   rw [List.getElem_set_ne e3]
   simp [genM,e]
theorem RowsO.set {w : World} {base : Nat} {A : Value} {C : Nat} {bs : List Nat} {M : List (List Int)} (h : RowsO w base A C bs M) {i j b : Nat} (hb : bs[i]? = some b) (hj : j < C)
  {s : Bool} {a : Option Addr} {l c : Nat} {z : Int} (hv : IntV w (.agg #[.bool s,.slice a l c]) z) :
  RowsO ((w.setCell ⟨b,j * 2,none⟩ (.bool s)).setCell ⟨b,j * 2 + 1,none⟩ (.slice a l c)) base A C bs (setM M i j z)/\LExt w ((w.setCell ⟨b,j * 2,none⟩ (.bool s)).setCell ⟨b,j * 2 + 1,none⟩ (.slice a l c))/\base<=b:=by
 have hib:=(List.getElem?_eq_some_iff.1 hb).1
 have hiM : i < M.length:=by rw [h.len]; exact hib
 obtain ⟨r1,r2,r3⟩:=h.row i b M[i] hb (List.getElem?_eq_getElem hiM)
 obtain ⟨s1,s2⟩:=r3.set (k:=j) (by rw [r2]; exact hj) hv
 refine ⟨⟨⟨h.own.1,?_⟩,by simp [setM,h.len],?_,h.nodup,h.cb⟩,s2,r1⟩
 ·rcases h.own.2 with h1 | ⟨g,cap,cur,e1,e2,e3,e4⟩
  ·exact .inl h1
  ·refine .inr ⟨g,cap,cur,e1,e2,?_,e4⟩
   have hne : g ≠ b:=by
    have:=own_ne h.own r3
    rw [e1] at this
    simp only [Value.ownBlock] at this
    intro hh
    exact this (by rw [hh])
   exact (set2_old w b _ _ g _ _ hne).trans e3
 ·intro k b' r hk hr
  by_cases e : k = i
  ·subst e
   rw [hb] at hk
   injection hk with hk
   subst hk
   unfold setM at hr
   rw [List.getElem?_set_self hiM] at hr
   injection hr with hr
   subst hr
   rw [getD_of (List.getElem?_eq_getElem hiM)]
   exact ⟨r1,by rw [List.length_set]; exact r2,s1⟩
  ·unfold setM at hr
   rw [List.getElem?_set_ne (Ne.symm e)] at hr
   obtain ⟨f1,f2,f3⟩:=h.row k b' r hk hr
   have hkb:=(List.getElem?_eq_some_iff.1 hk).1
   have hne : b' ≠ b:=by
    intro hh
    subst hh
    have h1:=(List.getElem?_eq_some_iff.1 hk).2
    have h2:=(List.getElem?_eq_some_iff.1 hb).2
    exact e ((List.getElem_inj h.nodup).1 (h1.trans h2.symm))
   exact ⟨f1,f2,f3.old (set2_old w b _ _ b' _ _ hne) s2⟩
theorem RowsO.at_ {w : World} {base : Nat} {ao : Option Addr} {n cap C : Nat} {bs : List Nat} {M : List (List Int)} (h : RowsO w base (.slice ao n cap) C bs M) {i : Nat} (hi : i < bs.length) :
  ∃g b,ao = some ⟨g,0,none⟩/\g < w.heap.size/\bs[i]? = some b/\b < w.heap.size/\w.cell? ⟨g,i,none⟩ = some (.slice (some ⟨b,0,none⟩) C C)/\n = bs.length:=by
 rcases h.own.2 with ⟨e,h0⟩ | ⟨g,cap',cur,e,e2,e3,e4,e5,e6,e7⟩
 ·omega
 ·injection e with e8 e9 e10
  subst e8
  have hM : i < M.length:=by rw [h.len]; exact hi
  have hr:=h.row i bs[i] M[i] (List.getElem?_eq_getElem hi) (List.getElem?_eq_getElem hM)
  refine ⟨g,bs[i],rfl,(Array.getElem?_eq_some_iff.1 e3).1,List.getElem?_eq_getElem hi,hr.2.2.lt,?_,e9⟩
  rw [cell_of_row w g i cur _ _ e3]
  have : (rowPtrs C bs)[i]? = some (.slice (some ⟨bs[i],0,none⟩) C C):=by simp [rowPtrs,hi]
  rw [<-e7,List.getElem?_take_of_lt oM] at this
  simpa using this
theorem RowsO.cellAt {w : World} {base : Nat} {A : Value} {C : Nat} {bs : List Nat} {M : List (List Int)} (h : RowsO w base A C bs M) {i j b : Nat} (hb : bs[i]? = some b) (hj : j < C) :
  ∃s a l c,w.cell? ⟨b,j * 2,none⟩ = some (.bool s)/\w.cell? ⟨b,j * 2 + 1,none⟩ = some (.slice a l c)/\w.frozen? ⟨b,j * 2,none⟩ = false/\w.frozen? ⟨b,j * 2 + 1,none⟩ = false/\IntV w (.agg #[.bool s,.slice a l c]) (ent M i j):=by
 have hib:=(List.getElem?_eq_some_iff.1 hb).1
 have hiM : i < M.length:=by rw [h.len]; exact hib
 obtain ⟨r1,r2,r3⟩:=h.row i b M[i] hb (List.getElem?_eq_getElem hiM)
 have hjr : j < M[i].length:=by rw [r2]; exact hj
 have:=r3.cell (List.getElem?_eq_getElem hjr)
 rwa [ent_of (List.getElem?_eq_getElem hiM) (List.getElem?_eq_getElem hjr)]
def upTo (f : Nat->Nat->Int) (i j : Nat) : Nat->Nat->Int:=fun a b=>if a < i ∨ (a = i/\b < j) then f a b else 0
theorem upTo_start (R C : Nat) (f : Nat->Nat->Int) : zerosM R C = genM R C (upTo f 0 0):=by
 rw [zeros_genM]
 exact genM_congr fun i _ j _=>by unfold upTo; rw [if_neg oM]
theorem upTo_row {R C : Nat} {f : Nat->Nat->Int} {i : Nat} : genM R C (upTo f i C) = genM R C (upTo f (i + 1) 0):=
 genM_congr fun a _ b hb=>by
  unfold upTo
  by_cases h : a < i ∨ (a = i/\b < C)
  ·rw [if_pos h,if_pos oM]
  ·rw [if_neg h,if_neg oM]
theorem upTo_end {R C : Nat} {f : Nat->Nat->Int} : genM R C (upTo f R 0) = genM R C f:=
 genM_congr fun a ha b _=>by unfold upTo; rw [if_pos oM]
theorem upTo_step {R C : Nat} {f : Nat->Nat->Int} {i j : Nat} (hi : i < R) (hj : j < C) : setM (genM R C (upTo f i j)) i j (f i j) = genM R C (upTo f i (j + 1)):=by
 rw [setM_genM _ hi hj]
 exact genM_congr fun a _ b _=>by
  unfold upTo
  by_cases h : a = i/\b = j
  ·obtain ⟨rfl,rfl⟩:=h
   rw [if_pos ⟨rfl,rfl⟩,if_pos oM]
  ·rw [if_neg h]
   by_cases h2 : a < i ∨ (a = i/\b < j)
   ·rw [if_pos h2,if_pos oM]
   ·rw [if_neg h2,if_neg oM]
theorem RowsO.lts {w : World} {base : Nat} {A : Value} {C : Nat} {bs : List Nat} {M : List (List Int)} (h : RowsO w base A C bs M) : ∀(i b : Nat),bs[i]? = some b->b < w.heap.size:=by
 intro i b hb
 have hib:=(List.getElem?_eq_some_iff.1 hb).1
 have hiM : i < M.length:=by rw [h.len]; exact hib
 exact (h.row i b M[i] hb (List.getElem?_eq_getElem hiM)).2.2.lt
set_option maxHeartbeats 4000000 in
set_option maxRecDepth 20000 in
theorem r5scale_off (v kv : Value) (R C : Nat) (M : List (List Int)) (k : Int) (w : World) (h : MatW w v R C M) (hF : Fits R C M) (hk : IntV w kv k) (hR : R<=1000000) (hC : C<=1000000) (hS : ∀r ∈ M,∀z ∈ r,Sm z) (hks : Sm k) :
  Calls Tryz.prog 177 #[v,kv] w (RetMat w R C (genM R C (fun i j=>ent M i j * k))):=by
 obtain ⟨A,rfl,h⟩:=h
 obtain ⟨ao,n,cap,rfl,e2,e3,e4,-⟩:=id h
 have HX:=Lib.hid e2
 have HS:=HidS.mk hS
 have HK:=HidS.mk hks
 have HF:=HidS.mk hF
 obtain rfl : n = R:=by rw [<-e2,hF.1]
 have hkv:=hk
 obtain ⟨kn,ka,kl,kc,kx,rfl,hkx⟩:=id hk
 have HKX:=Lib.hid hkx
 clear e2 hS hks hF hkx
 obtain ⟨f,hf⟩ : ∃f : Nat->Nat->Int,(fun i j=>ent M i j * k) = f:=⟨_,rfl⟩
 rw [hf]
 have hfe : ∀i j,f i j = ent M i j * k:=fun i j=>by rw [<-hf]
 clear hf
 have HFE:=HidS.mk hfe
 clear hfe
 go_enter Tryz.func177,Tryz.ntmps177
 go_upto_region 1 with (fail)
 refine wp_world ?_
 intro W0 hW0
 obtain ⟨hB0,bx1,bx2,br,hs0⟩:=world3 hW0
 obtain ⟨c1,c2,c3,c4,c5,c6⟩:=bx1.three
 go_wp2_with fail
 refine (r5new_any n C W0 hR hC).mono ?_
 rintro e w2 ⟨u,bs,rfl,⟨hbl,A2,rfl,ho⟩,hb2⟩
 obtain ⟨oo,on,oc,rfl,-,-,-,-⟩:=id ho.rows
 have hlts:=ho.lts
 go_upto_region 2 with (fail)
 refine wp_world ?_
 intro W3 hW3
 obtain ⟨hB3,T5,hs3⟩:=world1 hW3
 have bx1:=(bx1.below hb2).below hB3
 have bx2:=(bx2.below hb2).below hB3
 have br:=(br.below hb2).below hB3
 have ho:=ho.below hB3
 rw [upTo_start n C f] at ho
 have hBt:=nx (nx hB0 hb2) hB3
 have q2:=hb2.size
 clear hW3 hW0 c1 c2 c3 c4 c5 c6
 go_wp2
 go_loopw [6] (fun iv wr=>∃i : Nat,i<=n/\iv = .int .i64 i/\Below w.heap.size w wr/\Blk wr w.heap.size 41 #[.int .i64 n,.int .i64 C,.slice ao n cap]/\Blk wr (w.heap.size + 1) 66 #[.bool kn,.slice ka kl kc] ∧
  Blk wr (w.heap.size + 1 + 1) 41 #[.int .i64 0,.int .i64 0,.slice none 0 0]/\Blk wr w2.heap.size 41 #[.int .i64 n,.int .i64 C,.slice oo on oc]/\RowsO wr W0.heap.size (.slice oo on oc) C bs (genM n C (upTo f i 0))) (fun iv _=>n - (intOf iv).toNat)
 case atStart=>exact ⟨0,by omega,rfl,hBt,bx1,bx2,br,T5,ho⟩
 case round=>
  obtain ⟨i,hi,rfl,hb,bx1,bx2,br,T5,ho⟩:=hrel
  obtain ⟨c1,c2,c3,c4,c5,c6⟩:=bx1.three
  by_cases hlt : i < n
  ·go_wp2
   clear c1 c2 c3 c4 c5 c6
   go_loopw [7] (fun jv wr=>∃j : Nat,j<=C/\jv = .int .i64 j/\Below w.heap.size w wr/\Blk wr w.heap.size 41 #[.int .i64 n,.int .i64 C,.slice ao n cap]/\Blk wr (w.heap.size + 1) 66 #[.bool kn,.slice ka kl kc] ∧
    Blk wr (w.heap.size + 1 + 1) 41 #[.int .i64 0,.int .i64 0,.slice none 0 0]/\Blk wr w2.heap.size 41 #[.int .i64 n,.int .i64 C,.slice oo on oc]/\RowsO wr W0.heap.size (.slice oo on oc) C bs (genM n C (upTo f i j))) (fun jv _=>C - (intOf jv).toNat)
   case atStart=>exact ⟨0,by omega,rfl,hb,bx1,bx2,br,T5,ho⟩
   case round=>
    obtain ⟨j,hj,rfl,hb,bx1,bx2,br,T5,ho⟩:=hrel
    obtain ⟨c1,c2,c3,c4,c5,c6⟩:=bx1.three
    by_cases hjc : j < C
    ·obtain ⟨b,o,ra,rn,rc,zs,rfl,hbl1,hz,p1,hv⟩:=(h.below hb).row (k:=i) (by rw [HX.out]; exact hlt)
     have hzl:=HF.out.2 zs (List.mem_of_getElem? hz)
     have hvl:=hv.len
     obtain rfl : rn = C:=by omega
     obtain ⟨b',z,s,a,l,c,rfl,hbl',hzk,q1,q2',hzv⟩:=hv.cell (k:=j) oM
     have hent:=Lib.hid (ent_of hz hzk)
     have SZ : HidS (Sm z):=⟨HS.out _ (List.mem_of_getElem? hz) _ (List.mem_of_getElem? hzk)⟩
     clear hz hzk hzl
     obtain ⟨g,bo,rfl,hg,hbo,hbo2,o1,ho3⟩:=ho.at_ (i:=i) oM
     obtain ⟨d1,d2,d3,d4⟩:=bx2.two
     obtain ⟨f1,f2,f3,f4,f5,f6⟩:=T5.three
     have hio : i < on:=by omega
     have HO3:=Lib.hid ho3
     clear ho3
     have lt1:=bx1.lt
     have lt2:=bx2.lt
     have lt5:=T5.lt
     have hkw:=hkv.ext (lx hb)
     go_upto_region 8 with (fail)
     refine wp_serH 17 [pcI 15 (z * k)] ?_
     refine sRd ?_
     refine sRc (fun wS hI Gk hG=>by go_simp; exact ck hG (r1mul_any _ _ z k _ (hzv.ext hI.lext) (hkw.ext hI.lext) SZ.out HK.out)) (fun va15 _=>?_)
     refine sRd ?_
     refine sRe ?_
     intro w9 hbw9 ha15
     obtain ⟨pn,pa,pl,pc,px,rfl,hpx⟩:=id ha15
     have HPX:=Lib.hid hpx
     clear hpx
     have ho9:=ho.below hbw9
     obtain ⟨sn,sa,sl,sc,z1,z2,z3,z4,-⟩:=ho9.cellAt hbo hjc
     have hbolt:=hlts i bo hbo
     have hset:=ho9.set hbo hjc ha15
     go_wp2
     go_roundw
     case rel=>
      have hq : z * k = f i j:=by rw [HFE.out,hent.out]
      rw [hq,upTo_step hlt hjc] at hset
      exact ⟨j + 1,by omega,by simp,bset (bset (nx hb hbw9) oM _ _) oM _ _,(set2_old _ _ _ _ _ _ _ oM).trans (bx1.below hbw9),(set2_old _ _ _ _ _ _ _ oM).trans (bx2.below hbw9),(set2_old _ _ _ _ _ _ _ oM).trans (br.below hbw9),(set2_old _ _ _ _ _ _ _ oM).trans (T5.below hbw9),hset.1⟩
     case measure=>simp [intOf]; omega
    ·obtain rfl : j = C:=by omega
     rw [upTo_row] at ho
     go_wp2
     go_roundw
     case rel=>exact ⟨i + 1,by omega,by simp,hb,bx1,bx2,br,T5,ho⟩
     case measure=>simp [intOf]; omega
  ·obtain rfl : i = n:=by omega
   rw [upTo_end] at ho
   obtain ⟨f1,f2,f3,f4,f5,f6⟩:=T5.three
   obtain ⟨r1,r2,r3,r4,r5,r6⟩:=br.three
   have q1:=hB0.size
   go_wp2
   refine bodyPost_mat rfl rfl rfl (br.put3 _ _ _) ⟨_,bs,rfl,⟨hbl,_,rfl,?_⟩,bset (bset (bset hb oM 0 _) oM 1 _) oM 2 _⟩
   exact (ho.keep (fun k hk=>set3_old _ _ k _ _ _ oM) (br.lext3 dE _ _ _)).mono q1
set_option maxHeartbeats 4000000 in
set_option maxRecDepth 20000 in
theorem r5copied_off (v : Value) (R C : Nat) (M : List (List Int)) (w : World) (h : MatW w v R C M) (hF : Fits R C M) (hR : R<=1000000) (hC : C<=1000000) (hS : ∀r ∈ M,∀z ∈ r,Sm z) :
  Calls Tryz.prog 154 #[v] w (RetMat w R C M):=by
 have h0:=h
 obtain ⟨A,rfl,h⟩:=h
 obtain ⟨ao,n,cap,rfl,e2,e3,e4,-⟩:=id h
 have HS:=HidS.mk hS
 have HF:=HidS.mk hF
 have S1 : HidS (Sm 1):=⟨(Smd.one (z:=1) dE).sm⟩
 have hM : genM R C (fun i j=>ent M i j * 1) = M:=by
  have : (fun i j=>ent M i j * 1) = ent M:=by funext i j; rw [Int.mul_one]
  rw [this,<-fits_genM hF]
 clear hS hF e2
 go_enter Tryz.func154,Tryz.ntmps154
 go_upto_region 1 with (fail)
 refine wp_world ?_
 intro W0 hW0
 obtain ⟨hB0,bx1,br,hs0⟩:=world2 hW0
 obtain ⟨c1,c2,c3,c4,c5,c6⟩:=bx1.three
 refine wp_serH 2 [pcI 1 (1)] ?_
 refine sRd ?_
 refine sRc (fun wS hI Gk hG=>by go_simp; exact ck hG (r1of_any 1 _ oM oM)) (fun va1 _=>?_)
 refine sRe ?_
 intro w1 hbw1 ha1
 have br:=br.below hbw1
 have hBt:=nx hB0 hbw1
 clear c1 c2 c3 c4 c5 c6
 go_wp2_with fail
 refine (r5scale_off _ _ R C M 1 w1 (h0.below hBt) HF.out ha1 hR hC HS.out S1.out).mono ?_
 rintro e w2 ⟨u,bs,rfl,⟨hbl,A2,rfl,ho⟩,hb2⟩
 rw [hM] at ho
 obtain ⟨oo,on,oc,rfl,-,-,-,-⟩:=id ho.rows
 have br:=br.below hb2
 have hBt:=nx hBt hb2
 obtain ⟨r1,r2,r3,r4,r5,r6⟩:=br.three
 have q1:=hbw1.size
 have q2 : w.heap.size + 1 < w1.heap.size:=by omega
 clear r1 r2 r3
 obtain ⟨r1,r2,r3,-,-,-⟩:=br.three
 go_wp2
 refine bodyPost_mat rfl rfl rfl (br.put3 _ _ _) ⟨_,bs,rfl,⟨hbl,_,rfl,?_⟩,bset (bset (bset hBt oM 0 _) oM 1 _) oM 2 _⟩
 exact (ho.keep (fun k hk=>set3_old _ _ k _ _ _ oM) (br.lext3 dE _ _ _)).mono oM
def idf (i j : Nat) : Int:=if i = j then 1 else 0
def idUp (k : Nat) (i j : Nat) : Int:=if i = j/\i < k then 1 else 0
set_option maxHeartbeats 4000000 in
set_option maxRecDepth 20000 in
theorem r5identity_any (n : Nat) (w : World) (hn : n<=1000000) : Calls Tryz.prog 155 #[.int .i64 n] w (RetMat w n n (genM n n idf)):=by
 go_enter Tryz.func155,Tryz.ntmps155
 go_upto_region 1 with (fail)
 refine wp_world ?_
 intro W0 hW0
 obtain ⟨hB0,br,hs0⟩:=world1 hW0
 go_wp2_with fail
 refine (r5new_any n n W0 hn hn).mono ?_
 rintro e w2 ⟨u,bs,rfl,⟨hbl,A2,rfl,ho⟩,hb2⟩
 obtain ⟨oo,on,oc,rfl,-,-,-,-⟩:=id ho.rows
 have hlts:=ho.lts
 go_upto_region 2 with (fail)
 refine wp_world ?_
 intro W3 hW3
 obtain ⟨hB3,T5,hs3⟩:=world1 hW3
 have br:=(br.below hb2).below hB3
 have ho:=ho.below hB3
 have hz0 : zerosM n n = genM n n (idUp 0):=by rw [zeros_genM]; exact genM_congr fun i _ j _=>by unfold idUp; rw [if_neg oM]
 rw [hz0] at ho
 have hBt:=nx (nx hB0 hb2) hB3
 have q1:=hB0.size
 have q2:=hb2.size
 clear hW3 hW0 hz0
 go_wp2
 go_loopw [4] (fun iv wr=>∃i : Nat,i<=n/\iv = .int .i64 i/\Below w.heap.size w wr/\Blk wr w.heap.size 41 #[.int .i64 0,.int .i64 0,.slice none 0 0]/\Blk wr w2.heap.size 41 #[.int .i64 n,.int .i64 n,.slice oo on oc]/\RowsO wr W0.heap.size (.slice oo on oc) n bs (genM n n (idUp i))) (fun iv _=>n - (intOf iv).toNat)
 case atStart=>exact ⟨0,by omega,rfl,hBt,br,T5,ho⟩
 case round=>
  obtain ⟨i,hi,rfl,hb,br,T5,ho⟩:=hrel
  obtain ⟨f1,f2,f3,f4,f5,f6⟩:=T5.three
  by_cases hlt : i < n
  ·obtain ⟨g,bo,rfl,hg,hbo,hbo2,o1,ho3⟩:=ho.at_ (i:=i) oM
   have hio : i < on:=by omega
   have HO3:=Lib.hid ho3
   clear ho3
   have lt5:=T5.lt
   go_upto_region 5 with (fail)
   refine wp_serH 8 [pcI 6 (1)] ?_
   refine sRd ?_
   refine sRc (fun wS hI Gk hG=>by go_simp; exact ck hG (r1of_any 1 _ oM oM)) (fun va6 _=>?_)
   refine sRd ?_
   refine sRe ?_
   intro w9 hbw9 ha6
   obtain ⟨pn,pa,pl,pc,px,rfl,hpx⟩:=id ha6
   have HPX:=Lib.hid hpx
   clear hpx
   have ho9:=ho.below hbw9
   obtain ⟨sn,sa,sl,sc,z1,z2,z3,z4,-⟩:=ho9.cellAt hbo hlt
   have hbolt:=hlts i bo hbo
   have hset:=ho9.set hbo hlt ha6
   go_wp2
   go_roundw
   case rel=>
    have hq : setM (genM n n (idUp i)) i i 1 = genM n n (idUp (i + 1)):=by
     rw [setM_genM _ hlt hlt]
     exact genM_congr fun a _ b _=>by
      unfold idUp
      by_cases h : a = i/\b = i
      ·rw [if_pos h,if_pos oM]
      ·rw [if_neg h]
       by_cases h2 : a = b/\a < i
       ·rw [if_pos h2,if_pos oM]
       ·rw [if_neg h2,if_neg oM]
    rw [hq] at hset
    exact ⟨i + 1,by omega,by simp,bset (bset (nx hb hbw9) oM _ _) oM _ _,(set2_old _ _ _ _ _ _ _ oM).trans (br.below hbw9),(set2_old _ _ _ _ _ _ _ oM).trans (T5.below hbw9),hset.1⟩
   case measure=>simp [intOf]; omega
  ·obtain rfl : i = n:=by omega
   have hq : genM i i (idUp i) = genM i i idf:=genM_congr fun a ha b _=>by
    unfold idUp idf
    by_cases h : a = b
    ·rw [if_pos ⟨h,ha⟩,if_pos h]
    ·rw [if_neg (fun h2=>h h2.1),if_neg h]
   rw [hq] at ho
   obtain ⟨r1,r2,r3,r4,r5,r6⟩:=br.three
   go_wp2
   refine bodyPost_mat rfl rfl rfl (br.put3 _ _ _) ⟨_,bs,rfl,⟨hbl,_,rfl,?_⟩,bset (bset (bset hb oM 0 _) oM 1 _) oM 2 _⟩
   exact (ho.keep (fun k hk=>set3_old _ _ k _ _ _ oM) (br.lext3 dE _ _ _)).mono q1
def sumTo (f : Nat->Int) : Nat->Int
 | 0=>0
 | k + 1=>sumTo f k + f k
def mulf (A B : List (List Int)) (m i j : Nat) : Int:=sumTo (fun t=>ent A i t * ent B t j) m
def MulSm (A B : List (List Int)) (R m C : Nat) : Prop:=
 ∀i,i < R->∀j,j < C->∀k,k < m->Sm (ent A i k)/\Sm (ent B k j)/\Sm (ent A i k * ent B k j)/\Sm (mulf A B k i j)
def upAt (f : Nat->Nat->Int) (i j : Nat) (x : Int) : Nat->Nat->Int:=fun a b=>if a = i/\b = j then x else upTo f i j a b
theorem upAt_start {R C : Nat} {f : Nat->Nat->Int} {i j : Nat} : genM R C (upTo f i j) = genM R C (upAt f i j 0):=
 genM_congr fun a _ b _=>by
  unfold upAt
  by_cases h : a = i/\b = j
  ·obtain ⟨rfl,rfl⟩:=h
   rw [if_pos ⟨rfl,rfl⟩]
   unfold upTo
   rw [if_neg oM]
  ·rw [if_neg h]
theorem upAt_set {R C : Nat} {f : Nat->Nat->Int} {i j : Nat} {x y : Int} (hi : i < R) (hj : j < C) : setM (genM R C (upAt f i j x)) i j y = genM R C (upAt f i j y):=by
 rw [setM_genM _ hi hj]
 exact genM_congr fun a _ b _=>by
  unfold upAt
  by_cases h : a = i/\b = j
  ·rw [if_pos h,if_pos h]
  ·rw [if_neg h,if_neg h,if_neg h]
theorem upAt_end {R C : Nat} {f : Nat->Nat->Int} {i j : Nat} : genM R C (upAt f i j (f i j)) = genM R C (upTo f i (j + 1)):=
 genM_congr fun a _ b _=>by
  unfold upAt
  by_cases h : a = i/\b = j
  ·obtain ⟨rfl,rfl⟩:=h
   rw [if_pos ⟨rfl,rfl⟩]
   unfold upTo
   rw [if_pos oM]
  ·rw [if_neg h]
   unfold upTo
   by_cases h2 : a < i ∨ (a = i/\b < j)
   ·rw [if_pos h2,if_pos oM]
   ·rw [if_neg h2,if_neg oM]
theorem upAt_here {f : Nat->Nat->Int} {i j : Nat} {x : Int} : upAt f i j x i j = x:=by unfold upAt; rw [if_pos ⟨rfl,rfl⟩]
theorem run_loadMat {W : World} {r : Nat} {v : Array Value} (hb : Blk W r 41 v) (h3 : v.size = 3) : (loadVar 41 ⟨r,0,none⟩).run Tryz.prog W = .ok (.agg v) W:=
 run_loadVar_row W r _ _ v _ _ hb Tryz.underlying41 rfl (by rw [Tryz.sizeM,h3])
theorem results_mt {fn : Func} {p u : Tmp} (h : fn.results = #[.cell p 41,.tmp u]) (tmps : Array Value) {W : World} {r : Nat} {v : Array Value}
  (hp : tmps.getD p undef = .pointer (some ⟨r,0,none⟩)) (hb : Blk W r 41 v) (h3 : v.size = 3) :
  (results fn tmps).run Tryz.prog W = .ok (.tuple #[.agg v,tmps.getD u undef]) W:=by
 have hp' : tmps[p]?.getD undef = .pointer (some ⟨r,0,none⟩):=by simpa using hp
 simp [results,h,hp',asAddr,run_loadMat hb h3]
set_option maxHeartbeats 8000000 in
set_option maxRecDepth 20000 in
theorem r5mul_any (v1 v2 : Value) (R m C : Nat) (M1 M2 : List (List Int)) (w : World) (h1 : MatV w v1 R m M1) (h2 : MatV w v2 m C M2) (hF1 : Fits R m M1) (hF2 : Fits m C M2) (hR : R<=1000000) (hm : m<=1000000) (hC : C<=1000000) (hS : MulSm M1 M2 R m C) :
  Calls Tryz.prog 78 #[v1,v2] w fun e w'=>∃v bs,e = .returned (.tuple #[v,.int .i64 0])/\MatO w' w.heap.size v R C bs (genM R C (mulf M1 M2 m))/\Below w.heap.size w w':=by
 obtain ⟨A1,rfl,h1⟩:=h1
 obtain ⟨A2,rfl,h2⟩:=h2
 obtain ⟨ao,n,cap,rfl,e2,e3,e4,-⟩:=id h1
 obtain ⟨bo,q,bcap,rfl,g2,g3,g4,-⟩:=id h2
 have HX:=Lib.hid e2
 have HY:=Lib.hid g2
 have HS:=HidS.mk hS
 have HF1:=HidS.mk hF1
 have HF2:=HidS.mk hF2
 obtain rfl : n = R:=by rw [<-e2,hF1.1]
 obtain rfl : q = m:=by rw [<-g2,hF2.1]
 clear e2 g2 hS hF1 hF2
 obtain ⟨f,hf⟩ : ∃f : Nat->Nat->Int,mulf M1 M2 q = f:=⟨_,rfl⟩
 rw [hf]
 have HFE : HidS (∀i j,f i j = mulf M1 M2 q i j):=⟨fun i j=>by rw [<-hf]⟩
 clear hf
 go_enter Tryz.func78,Tryz.ntmps78
 go_upto_region 1 with (fail)
 refine wp_world ?_
 intro W0 hW0
 obtain ⟨hB0,bx1,bx2,br,hs0⟩:=world3 hW0
 obtain ⟨c1,c2,c3,c4,c5,c6⟩:=bx1.three
 obtain ⟨d1,d2,d3,d4,d5,d6⟩:=bx2.three
 go_wp2_with fail
 refine (r5new_any n C W0 hR hC).mono ?_
 rintro e w2 ⟨u,bs,rfl,⟨hbl,A3,rfl,ho⟩,hb2⟩
 obtain ⟨oo,on,oc,rfl,-,-,-,-⟩:=id ho.rows
 have hlts:=ho.lts
 go_upto_region 4 with (fail)
 refine wp_world ?_
 intro W3 hW3
 obtain ⟨hB3,T5,hs3⟩:=world1 hW3
 have bx1:=(bx1.below hb2).below hB3
 have bx2:=(bx2.below hb2).below hB3
 have br:=(br.below hb2).below hB3
 have ho:=ho.below hB3
 rw [upTo_start n C f] at ho
 have hBt:=nx (nx hB0 hb2) hB3
 have q2:=hb2.size
 clear hW3 hW0 c1 c2 c3 c4 c5 c6 d1 d2 d3 d4 d5 d6
 go_wp2
 go_loopw [7] (fun iv wr=>∃i : Nat,i<=n/\iv = .int .i64 i/\Below w.heap.size w wr/\Blk wr w.heap.size 41 #[.int .i64 n,.int .i64 q,.slice ao n cap]/\Blk wr (w.heap.size + 1) 41 #[.int .i64 q,.int .i64 C,.slice bo q bcap] ∧
  Blk wr (w.heap.size + 1 + 1) 41 #[.int .i64 0,.int .i64 0,.slice none 0 0]/\Blk wr w2.heap.size 41 #[.int .i64 n,.int .i64 C,.slice oo on oc]/\RowsO wr W0.heap.size (.slice oo on oc) C bs (genM n C (upTo f i 0))) (fun iv _=>n - (intOf iv).toNat)
 case atStart=>exact ⟨0,by omega,rfl,hBt,bx1,bx2,br,T5,ho⟩
 case round=>
  obtain ⟨i,hi,rfl,hb,bx1,bx2,br,T5,ho⟩:=hrel
  obtain ⟨c1,c2,c3,c4,c5,c6⟩:=bx1.three
  by_cases hlt : i < n
  ·go_wp2
   clear c1 c2 c3 c4 c5 c6
   go_loopw [8] (fun jv wr=>∃j : Nat,j<=C/\jv = .int .i64 j/\Below w.heap.size w wr/\Blk wr w.heap.size 41 #[.int .i64 n,.int .i64 q,.slice ao n cap]/\Blk wr (w.heap.size + 1) 41 #[.int .i64 q,.int .i64 C,.slice bo q bcap] ∧
    Blk wr (w.heap.size + 1 + 1) 41 #[.int .i64 0,.int .i64 0,.slice none 0 0]/\Blk wr w2.heap.size 41 #[.int .i64 n,.int .i64 C,.slice oo on oc]/\RowsO wr W0.heap.size (.slice oo on oc) C bs (genM n C (upTo f i j))) (fun jv _=>C - (intOf jv).toNat)
   case atStart=>exact ⟨0,by omega,rfl,hb,bx1,bx2,br,T5,ho⟩
   case round=>
    obtain ⟨j,hj,rfl,hb,bx1,bx2,br,T5,ho⟩:=hrel
    obtain ⟨d1,d2,d3,d4,d5,d6⟩:=bx2.three
    by_cases hjc : j < C
    ·go_wp2
     clear d1 d2 d3 d4 d5 d6
     rw [upAt_start] at ho
     go_loopw [9] (fun kv wr=>∃k : Nat,k<=q/\kv = .int .i64 k/\Below w.heap.size w wr/\Blk wr w.heap.size 41 #[.int .i64 n,.int .i64 q,.slice ao n cap]/\Blk wr (w.heap.size + 1) 41 #[.int .i64 q,.int .i64 C,.slice bo q bcap] ∧
      Blk wr (w.heap.size + 1 + 1) 41 #[.int .i64 0,.int .i64 0,.slice none 0 0]/\Blk wr w2.heap.size 41 #[.int .i64 n,.int .i64 C,.slice oo on oc]/\RowsO wr W0.heap.size (.slice oo on oc) C bs (genM n C (upAt f i j (mulf M1 M2 k i j)))) (fun kv _=>q - (intOf kv).toNat)
     case atStart=>exact ⟨0,by omega,rfl,hb,bx1,bx2,br,T5,ho⟩
     case round=>
      obtain ⟨k,hk,rfl,hb,bx1,bx2,br,T5,ho⟩:=hrel
      obtain ⟨c1,c2,c3,c4,c5,c6⟩:=bx1.three
      by_cases hkq : k < q
      ·obtain ⟨d1,d2,d3,d4,d5,d6⟩:=bx2.three
       obtain ⟨b,ra,rn,rc,zs,rfl,hbl1,hz,p1,hv⟩:=(h1.below hb).row (k:=i) (by rw [HX.out]; exact hlt)
       have hzl:=HF1.out.2 zs (List.mem_of_getElem? hz)
       have hvl:=hv.len
       obtain ⟨b',z,s,a,l,c,rfl,hbl',hzk,q1,q2',hzv⟩:=hv.cell (k:=k) oM
       have hkrn : k < rn:=by omega
       obtain ⟨y,ya,yn,yc,ys,rfl,hyl1,hy,y1,hyv⟩:=(h2.below hb).row (k:=k) (by rw [HY.out]; exact hkq)
       have hyl:=HF2.out.2 ys (List.mem_of_getElem? hy)
       have hyvl:=hyv.len
       obtain ⟨y',x,xs,xa,xl,xc,rfl,hyl',hyk,x1,x2,hxv⟩:=hyv.cell (k:=j) oM
       have hjyn : j < yn:=by omega
       have he1:=Lib.hid (ent_of hz hzk)
       have he2:=Lib.hid (ent_of hy hyk)
       have HSM:=HidS.mk (HS.out i hlt j hjc k hkq)
       clear hz hzk hzl hy hyk hyl hvl hyvl
       obtain ⟨g,bo',rfl,hg,hbo,hbo2,o1,ho3⟩:=ho.at_ (i:=i) oM
       obtain ⟨us,ua,ul,uc,u1,u2,u3,u4,uv⟩:=ho.cellAt hbo hjc
       rw [ent_genM hlt hjc,upAt_here] at uv
       obtain ⟨f1,f2,f3,f4,f5,f6⟩:=T5.three
       have hio : i < on:=by omega
       have HO3:=Lib.hid ho3
       clear ho3
       have lt1:=bx1.lt
       have lt2:=bx2.lt
       have lt5:=T5.lt
       rw [<-he1.out] at hzv
       rw [<-he2.out] at hxv
       go_upto_region 13 with (fail)
       refine wp_serH 33 [pcI 30 (ent M1 i k * ent M2 k j),pcD 31 [30] (fun w v=>IntV w v (mulf M1 M2 k i j + ent M1 i k * ent M2 k j))] ?_
       refine sRd ?_
       refine sRc (fun wS hI Gk hG=>by go_simp; exact ck hG (r1mul_any _ _ (ent M1 i k) (ent M2 k j) _ (hzv.ext hI.lext) (hxv.ext hI.lext) HSM.out.1 HSM.out.2.1)) (fun va30 _=>?_)
       refine sRc (fun wS hI ha30 Gk hG=>by go_simp; exact ck hG (r1add_any _ _ (mulf M1 M2 k i j) (ent M1 i k * ent M2 k j) _ (uv.ext hI.lext) ha30 HSM.out.2.2.2 HSM.out.2.2.1)) (fun va31 _=>?_)
       refine sRd ?_
       refine sRe ?_
       intro w9 hbw9 ha30 ha31
       obtain ⟨pn,pa,pl,pc,px,rfl,hpx⟩:=id ha31
       have HPX:=Lib.hid hpx
       clear hpx
       have ho9:=ho.below hbw9
       obtain ⟨sn,sa,sl,sc,z1,z2,z3,z4,-⟩:=ho9.cellAt hbo hjc
       have hbolt:=hlts i bo' hbo
       have hset:=ho9.set hbo hjc ha31
       go_wp2
       go_roundw
       case rel=>
        rw [upAt_set hlt hjc] at hset
        exact ⟨k + 1,by omega,by simp,bset (bset (nx hb hbw9) oM _ _) oM _ _,(set2_old _ _ _ _ _ _ _ oM).trans (bx1.below hbw9),(set2_old _ _ _ _ _ _ _ oM).trans (bx2.below hbw9),(set2_old _ _ _ _ _ _ _ oM).trans (br.below hbw9),(set2_old _ _ _ _ _ _ _ oM).trans (T5.below hbw9),hset.1⟩
       case measure=>simp [intOf]; omega
      ·obtain rfl : k = q:=by omega
       rw [<-HFE.out,upAt_end] at ho
       go_wp2
       go_roundw
       case rel=>exact ⟨j + 1,by omega,by simp,hb,bx1,bx2,br,T5,ho⟩
       case measure=>simp [intOf]; omega
    ·obtain rfl : j = C:=by omega
     rw [upTo_row] at ho
     go_wp2
     go_roundw
     case rel=>exact ⟨i + 1,by omega,by simp,hb,bx1,bx2,br,T5,ho⟩
     case measure=>simp [intOf]; omega
  ·obtain rfl : i = n:=by omega
   rw [upTo_end] at ho
   obtain ⟨f1,f2,f3,f4,f5,f6⟩:=T5.three
   obtain ⟨r1,r2,r3,r4,r5,r6⟩:=br.three
   have q1:=hB0.size
   go_wp2
   refine bodyPost_ret (results_mt rfl _ rfl (br.put3 _ _ _) rfl) rfl ⟨_,bs,rfl,⟨hbl,_,rfl,?_⟩,bset (bset (bset hb oM 0 _) oM 1 _) oM 2 _⟩
   exact (ho.keep (fun k hk=>set3_old _ _ k _ _ _ oM) (br.lext3 dE _ _ _)).mono q1
set_option maxHeartbeats 4000000 in
set_option maxRecDepth 20000 in
theorem r5product_any (v1 v2 : Value) (R m C : Nat) (M1 M2 : List (List Int)) (w : World) (h1 : MatV w v1 R m M1) (h2 : MatV w v2 m C M2) (hF1 : Fits R m M1) (hF2 : Fits m C M2) (hR : R<=1000000) (hm : m<=1000000) (hC : C<=1000000) (hS : MulSm M1 M2 R m C) :
  Calls Tryz.prog 31 #[v1,v2] w (RetMat w R C (genM R C (mulf M1 M2 m))):=by
 have h1':=h1
 have h2':=h2
 obtain ⟨A1,rfl,h1⟩:=h1
 obtain ⟨A2,rfl,h2⟩:=h2
 obtain ⟨ao,n,cap,rfl,-⟩:=id h1
 obtain ⟨bo,q,bcap,rfl,-⟩:=id h2
 have HS:=HidS.mk hS
 have HF1:=HidS.mk hF1
 have HF2:=HidS.mk hF2
 clear hS hF1 hF2
 go_enter Tryz.func31,Tryz.ntmps31
 go_upto_region 1 with (fail)
 refine wp_world ?_
 intro W0 hW0
 obtain ⟨hB0,bx1,bx2,br,hs0⟩:=world3 hW0
 obtain ⟨c1,c2,c3,c4,c5,c6⟩:=bx1.three
 obtain ⟨d1,d2,d3,d4,d5,d6⟩:=bx2.three
 go_wp2_with fail
 refine (r5mul_any _ _ R m C M1 M2 W0 (h1'.below hB0) (h2'.below hB0) HF1.out HF2.out hR hm hC HS.out).mono ?_
 rintro e w2 ⟨u,bs,rfl,⟨hbl,A3,rfl,ho⟩,hb2⟩
 obtain ⟨oo,on,oc,rfl,-,-,-,-⟩:=id ho.rows
 go_upto_region 2 with (fail)
 refine wp_world ?_
 intro W3 hW3
 obtain ⟨hB3,T5,hs3⟩:=world1 hW3
 have br:=(br.below hb2).below hB3
 have ho:=ho.below hB3
 have hBt:=nx (nx hB0 hb2) hB3
 have q2:=hB0.size
 clear hW3 hW0 c1 c2 c3 c4 c5 c6 d1 d2 d3 d4 d5 d6
 obtain ⟨f1,f2,f3,f4,f5,f6⟩:=T5.three
 obtain ⟨r1,r2,r3,r4,r5,r6⟩:=br.three
 go_wp2
 refine bodyPost_mat rfl rfl rfl (br.put3 _ _ _) ⟨_,bs,rfl,⟨hbl,_,rfl,?_⟩,bset (bset (bset hBt oM 0 _) oM 1 _) oM 2 _⟩
 exact (ho.keep (fun k hk=>set3_old _ _ k _ _ _ oM) (br.lext3 dE _ _ _)).mono q2
set_option maxHeartbeats 4000000 in
set_option maxRecDepth 20000 in
theorem sized_any (v : Value) (R C R' C' : Int) (M : List (List Int)) (w : World) (h : MatV w v R C M) :
  Calls Tryz.prog 30 #[v,.int .i64 R',.int .i64 C'] w fun e w'=>e = .returned (.bool (decide (R = R'/\C = C'/\ValidM R C M)))/\Below w.heap.size w w':=by
 have h0:=h
 obtain ⟨A,rfl,h⟩:=h
 obtain ⟨ao,n,cap,rfl,-⟩:=id h
 by_cases hR : R = R'
 ·by_cases hC : C = C'
  ·subst hR
   subst hC
   have hd : decide (R = R/\C = C/\ValidM R C M) = decide (ValidM R C M):=by simp
   rw [hd]
   clear hd
   obtain ⟨ans,ha⟩ : ∃ans,decide (ValidM R C M) = ans:=⟨_,rfl⟩
   rw [ha]
   go_enter Tryz.func30,Tryz.ntmps30
   go_upto_region 1 with (fail)
   refine wp_world ?_
   intro W0 hW0
   obtain ⟨hB0,bx1,hs0⟩:=world1 hW0
   obtain ⟨c1,c2,c3,c4,c5,c6⟩:=bx1.three
   go_wp2_with fail
   refine (r5valid_any _ R C M W0 (h0.below hB0)).mono ?_
   rintro e w1 ⟨rfl,hb1⟩
   rw [ha]
   go_wp2
   go_ret
   exact ⟨rfl,nx hB0 hb1⟩
  ·have hd : decide (R = R'/\C = C'/\ValidM R C M) = false:=decide_eq_false (fun hh=>hC hh.2.1)
   rw [hd]
   go_enter Tryz.func30,Tryz.ntmps30
   go_upto_region 1 with (fail)
   refine wp_world ?_
   intro W0 hW0
   obtain ⟨hB0,bx1,hs0⟩:=world1 hW0
   obtain ⟨c1,c2,c3,c4,c5,c6⟩:=bx1.three
   go_wp2
   go_ret
   exact ⟨rfl,hB0⟩
 ·have hd : decide (R = R'/\C = C'/\ValidM R C M) = false:=decide_eq_false (fun hh=>hR hh.1)
  rw [hd]
  go_enter Tryz.func30,Tryz.ntmps30
  go_upto_region 1 with (fail)
  refine wp_world ?_
  intro W0 hW0
  obtain ⟨hB0,bx1,hs0⟩:=world1 hW0
  obtain ⟨c1,c2,c3,c4,c5,c6⟩:=bx1.three
  go_wp2
  go_ret
  exact ⟨rfl,hB0⟩
theorem ValidM.fits {R C : Nat} {M : List (List Int)} (h : ValidM R C M) : Fits R C M:=by
 obtain ⟨-,-,h1,h2⟩:=h
 exact ⟨by omega,fun r hr=>by have:=h2 r hr; omega⟩
theorem sized_ans (v : Value) (R C R' C' : Int) (M : List (List Int)) (ans : Bool) (ha : decide (R = R'/\C = C'/\ValidM R C M) = ans) (w : World) (h : MatV w v R C M) :
  Calls Tryz.prog 30 #[v,.int .i64 R',.int .i64 C'] w fun e w'=>e = .returned (.bool ans)/\Below w.heap.size w w':=by
 subst ha
 exact sized_any v R C R' C' M w h
def InvM (n : Nat) (R1 C1 R2 C2 : Int) (M1 M2 : List (List Int)) : Bool:=
 decide (R1 = n/\C1 = n/\ValidM R1 C1 M1) && (decide (R2 = n/\C2 = n/\ValidM R2 C2 M2) && decide (genM n n (mulf M1 M2 n) = genM n n idf))
def leadGo : Nat->List Int->Int
 | _,[]=>-1
 | k,z :: zs=>if z ≠ 0 then (k : Int) else leadGo (k + 1) zs
structure Only (S : List Nat) (w w' : World) : Prop where
 bel : Below 0 w w'
 lext : LExt w w'
 old : ∀k,k < w.heap.size->k ∉ S->w'.heap[k]? = w.heap[k]?
theorem Only.refl (S : List Nat) (w : World) : Only S w w:=⟨Below.refl _ _,LExt.refl _,fun _ _ _=>rfl⟩
theorem Only.of {w w' : World} (S : List Nat) (h : Below w.heap.size w w') : Only S w w':=⟨h.mono (Nat.zero_le _),lx h,fun k hk _=>h.block k hk⟩
theorem Only.trans {S : List Nat} {a b c : World} (h : Only S a b) (k : Only S b c) : Only S a c:=
 ⟨h.bel.trans k.bel,h.lext.trans k.lext,fun i hi hn=>(k.old i (Nat.lt_of_lt_of_le hi h.bel.size) hn).trans (h.old i hi hn)⟩
theorem Only.mono {S S' : List Nat} {w w' : World} (h : Only S w w') (hs : ∀k,k ∈ S->k ∈ S') : Only S' w w':=⟨h.bel,h.lext,fun k hk hn=>h.old k hk (fun hh=>hn (hs k hh))⟩
theorem RowAt.vec {w : World} {b n cap : Nat} {zs : List Int} (h : RowAt w b zs) (hn : zs.length = n) (hc : n<=cap) (hc2 : cap<=9223372036854775807) : VecV w (.slice (some ⟨b,0,none⟩) n cap) zs:=
 ⟨_,_,_,rfl,hn,hc,hc2,fun _=>⟨b,rfl,h⟩⟩
def genV (n : Nat) (f : Nat->Int) : List Int:=(List.range n).map f
theorem genV_length (n : Nat) (f : Nat->Int) : (genV n f).length = n:=by simp [genV]
theorem genV_get {n : Nat} {f : Nat->Int} {j : Nat} (h : j < n) : (genV n f)[j]? = some (f j):=by simp [genV,h]
theorem genV_congr {n : Nat} {f g : Nat->Int} (h : ∀t,t < n->f t = g t) : genV n f = genV n g:=by
 unfold genV
 exact List.map_congr_left fun t ht=>h t (List.mem_range.1 ht)
def uptoV (f g : Nat->Int) (j : Nat) : Nat->Int:=fun t=>if t < j then f t else g t
def addF (F : Nat->Nat->Int) (i j : Nat) (k : Int) : Nat->Nat->Int:=fun a b=>if a = i then F i b + k * F j b else F a b
theorem RowsO.rowAt {w : World} {base : Nat} {A : Value} {R C : Nat} {bs : List Nat} {F : Nat->Nat->Int} (h : RowsO w base A C bs (genM R C F)) {i : Nat} (hi : i < R) : ∃b,bs[i]? = some b/\RowAt w b (genV C (F i)):=by
 have hl : bs.length = R:=by rw [<-h.len]; simp [genM]
 refine ⟨bs[i],List.getElem?_eq_getElem oM,?_⟩
 exact (h.row i bs[i] (genV C (F i)) (List.getElem?_eq_getElem oM) (genM_row R C F hi)).2.2
def Wri (w : World) (A : Value) (R C : Nat) (bs : List Nat) (F : Nat->Nat->Int) : Prop:=RowsO w 0 A C bs (genM R C F)
theorem Wri.below {w w' : World} {A : Value} {R C : Nat} {bs : List Nat} {F : Nat->Nat->Int} (h : Wri w A R C bs F) (hb : Below w.heap.size w w') : Wri w' A R C bs F:=RowsO.below h hb
theorem Wri.len {w : World} {A : Value} {R C : Nat} {bs : List Nat} {F : Nat->Nat->Int} (h : Wri w A R C bs F) : bs.length = R:=by rw [<-RowsO.len h]; simp [genM]
theorem Wri.blk {w : World} {A : Value} {R C : Nat} {bs : List Nat} {F : Nat->Nat->Int} (h : Wri w A R C bs F) {b : Nat} (hb : b ∈ bs) : ∃r,RowAt w b r:=by
 obtain ⟨k,hk,e⟩:=List.getElem_of_mem hb
 have hl:=h.len
 obtain ⟨b',e1,e2⟩:=RowsO.rowAt h (i:=k) oM
 rw [List.getElem?_eq_getElem hk,e] at e1
 injection e1 with e1
 subst e1
 exact ⟨_,e2⟩
def Far (xs ys : List Nat) : Prop:=∀b,b ∈ xs->b ∉ ys
structure BandV (w : World) (As At Ai : Value) (n Cs Ct : Nat) (bss bst bsi : List Nat) (S T I : Nat->Nat->Int) : Prop where
 s : Wri w As n Cs bss S
 t : Wri w At n Ct bst T
 i : Wri w Ai n Ct bsi I
 st : Far bss bst
 si : Far bss bsi
 ti : Far bst bsi
 ast : ∀g,As.ownBlock = some g->At.ownBlock ≠ some g
 asi : ∀g,As.ownBlock = some g->Ai.ownBlock ≠ some g
 ati : ∀g,At.ownBlock = some g->Ai.ownBlock ≠ some g
abbrev tRR : TypeId:=39
def AddSm (C : Nat) (F : Nat->Nat->Int) (i j : Nat) (k : Int) : Prop:=∀t,t < C->Sm (F i t)/\Sm (F j t)/\Sm (k * F j t)
def swp (i j : Nat) (k : Nat) : Nat:=if k = i then j else if k = j then i else k
theorem swp_swp (i j k : Nat) : swp i j (swp i j k) = k:=by
 unfold swp
 by_cases h1 : k = i
 ·rw [if_pos h1]
  by_cases h2 : j = i
  ·rw [if_pos h2]; omega
  ·rw [if_neg h2,if_pos rfl]; omega
 ·rw [if_neg h1]
  by_cases h2 : k = j
  ·rw [if_pos h2,if_pos rfl]; omega
  ·rw [if_neg h2,if_neg h1,if_neg h2]
theorem get_swap {α : Type} {l : List α} {i j : Nat} {x y : α} (hx : l[i]? = some x) (hy : l[j]? = some y) (k : Nat) : ((l.set i y).set j x)[k]? = l[swp i j k]?:=by
 have hi:=(List.getElem?_eq_some_iff.1 hx).1
 have hj:=(List.getElem?_eq_some_iff.1 hy).1
 unfold swp
 by_cases h2 : k = j
 ·subst h2
  rw [List.getElem?_set_self (by simpa using hj)]
  by_cases h1 : k = i
  ·subst h1
   rw [if_pos rfl]
   exact hx.symm
  ·rw [if_neg h1,if_pos rfl]; exact hx.symm
 ·rw [List.getElem?_set_ne (Ne.symm h2)]
  by_cases h1 : k = i
  ·subst h1
   rw [List.getElem?_set_self hi,if_pos rfl]
   exact hy.symm
  ·rw [List.getElem?_set_ne (Ne.symm h1),if_neg h1,if_neg h2]
theorem nodup_swap {α : Type} {l : List α} {i j : Nat} {x y : α} (hn : l.Nodup) (hx : l[i]? = some x) (hy : l[j]? = some y) : ((l.set i y).set j x).Nodup:=by
 show List.Pairwise _ _
 rw [List.pairwise_iff_getElem]
 intro a b ha hb hab he0
 have he : ((l.set i y).set j x)[a]? = ((l.set i y).set j x)[b]?:=by rw [List.getElem?_eq_getElem ha,List.getElem?_eq_getElem hb,he0]
 rw [get_swap hx hy,get_swap hx hy] at he
 have hi:=(List.getElem?_eq_some_iff.1 hx).1
 have hj:=(List.getElem?_eq_some_iff.1 hy).1
 have hlen : ((l.set i y).set j x).length = l.length:=by simp
 rw [hlen] at hb ha
 have hbnd : ∀k,k < l.length->swp i j k < l.length:=by
  intro k hk
  unfold swp
  split
  ·exact hj
  ·split
   ·exact hi
   ·exact hk
 have h1:=hbnd a oM
 have h2:=hbnd b hb
 rw [List.getElem?_eq_getElem h1,List.getElem?_eq_getElem h2] at he
 injection he with he
 have h3:=(List.getElem_inj hn).1 he
 have h4:=congrArg (swp i j) h3
 rw [swp_swp,swp_swp] at h4
 omega
theorem RowsO.swap {w : World} {base g n cap C : Nat} {bs : List Nat} {M : List (List Int)} (h : RowsO w base (.slice (some ⟨g,0,none⟩) n cap) C bs M) {i j bi bj : Nat} {ri rj : List Int} (hi : bs[i]? = some bi) (hj : bs[j]? = some bj) (hri : M[i]? = some ri) (hrj : M[j]? = some rj) :
  RowsO ((w.setCell ⟨g,i,none⟩ (.slice (some ⟨bj,0,none⟩) C C)).setCell ⟨g,j,none⟩ (.slice (some ⟨bi,0,none⟩) C C)) base (.slice (some ⟨g,0,none⟩) n cap) C ((bs.set i bj).set j bi) ((M.set i rj).set j ri) ∧
   LExt w ((w.setCell ⟨g,i,none⟩ (.slice (some ⟨bj,0,none⟩) C C)).setCell ⟨g,j,none⟩ (.slice (some ⟨bi,0,none⟩) C C)):=by
 have hib:=(List.getElem?_eq_some_iff.1 hi).1
 have hjb:=(List.getElem?_eq_some_iff.1 hj).1
 rcases h.own.2 with ⟨e,h0⟩ | ⟨g',cap',cur,e,e2,e3,e4,e5,e6,e7⟩
 ·omega
 ·injection e with e8 e9 e10
  injection e8 with e8
  injection e8 with e8
  subst e8
  subst e9
  subst e10
  have hB : Blk w g tR cur:=e3
  have hx : LExt w ((w.setCell ⟨g,i,none⟩ (.slice (some ⟨bj,0,none⟩) C C)).setCell ⟨g,j,none⟩ (.slice (some ⟨bi,0,none⟩) C C)):=(hB.lext dE _ _).trans ((hB.set_ _ _).lext dE _ _)
  refine ⟨⟨⟨by simp [rowPtrs],.inr ⟨g,cap,_,by simp,e2,(hB.set_ _ _).set_ _ _,by simpa using e4,e5,by simpa using e6,?_⟩⟩,by simp [h.len],?_,nodup_swap h.nodup hi hj,h.cb⟩,hx⟩
  ·rw [Array.toList_setIfInBounds,Array.toList_setIfInBounds]
   simp only [List.length_set]
   rw [List.take_set,List.take_set,e7]
   simp [rowPtrs,List.map_set]
  ·intro k b r hk hr
   rw [get_swap hi hj] at hk
   rw [get_swap hri hrj] at hr
   obtain ⟨f1,f2,f3⟩:=h.row _ b r hk hr
   refine ⟨f1,f2,f3.old (set2_old w g _ _ b _ _ ?_) hx⟩
   intro hh
   have:=own_ne h.own f3
   exact this (by rw [hh]; rfl)
theorem genM_swap {R C : Nat} {F : Nat->Nat->Int} {i j : Nat} (hi : i < R) (hj : j < R) :
  ((genM R C F).set i (genV C (F j))).set j (genV C (F i)) = genM R C (fun a b=>F (swp i j a) b):=by
 apply List.ext_getElem?
 intro k
 have e1 : (genM R C F)[i]? = some (genV C (F i)):=genM_row R C F hi
 have e2 : (genM R C F)[j]? = some (genV C (F j)):=genM_row R C F hj
 rw [get_swap e1 e2]
 rcases Nat.lt_or_ge k R with h | h
 ·have h2 : swp i j k < R:=by
   unfold swp
   split
   ·exact hj
   ·split
    ·exact hi
    ·exact h
  rw [genM_row R C F h2,genM_row R C _ h]
 ·have h2 : swp i j k = k:=by
   unfold swp
   rw [if_neg oM,if_neg oM]
  rw [h2,List.getElem?_eq_none (by simp [genM]; exact h),List.getElem?_eq_none (by simp [genM]; exact h)]
def swpL (bs : List Nat) (i j : Nat) : List Nat:=(bs.set i (bs.getD j 0)).set j (bs.getD i 0)
theorem mem_swpL {bs : List Nat} {i j : Nat} (hi : i < bs.length) (hj : j < bs.length) {b : Nat} (h : b ∈ swpL bs i j) : b ∈ bs:=by
 have e1 : bs[i]? = some bs[i]:=List.getElem?_eq_getElem hi
 have e2 : bs[j]? = some bs[j]:=List.getElem?_eq_getElem hj
 unfold swpL at h
 rw [getD_of e1,getD_of e2] at h
 obtain ⟨k,hk,e⟩:=List.getElem_of_mem h
 have h3 : ((bs.set i bs[j]).set j bs[i])[k]? = some b:=by rw [List.getElem?_eq_getElem hk,e]
 rw [get_swap e1 e2] at h3
 exact List.mem_of_getElem? h3
theorem Wri.swap {w : World} {g n cap R C : Nat} {bs : List Nat} {F : Nat->Nat->Int} (h : Wri w (.slice (some ⟨g,0,none⟩) n cap) R C bs F) {i j bi bj : Nat} (hi : i < R) (hj : j < R) (hbi : bs[i]? = some bi) (hbj : bs[j]? = some bj) :
  Wri ((w.setCell ⟨g,i,none⟩ (.slice (some ⟨bj,0,none⟩) C C)).setCell ⟨g,j,none⟩ (.slice (some ⟨bi,0,none⟩) C C)) (.slice (some ⟨g,0,none⟩) n cap) R C (swpL bs i j) (fun a b=>F (swp i j a) b) ∧
   LExt w ((w.setCell ⟨g,i,none⟩ (.slice (some ⟨bj,0,none⟩) C C)).setCell ⟨g,j,none⟩ (.slice (some ⟨bi,0,none⟩) C C)):=by
 have hs:=RowsO.swap h hbi hbj (genM_row R C F hi) (genM_row R C F hj)
 refine ⟨?_,hs.2⟩
 unfold Wri swpL
 rw [getD_of hbi,getD_of hbj,<-genM_swap hi hj]
 exact hs.1
def swpF (F : Nat->Nat->Int) (i j : Nat) : Nat->Nat->Int:=fun a b=>F (swp i j a) b
def negF (F : Nat->Nat->Int) (i : Nat) : Nat->Nat->Int:=fun a b=>if a = i then -(F a b) else F a b
def trF (F : Nat->Nat->Int) : Nat->Nat->Int:=fun a b=>F b a
def blendF (F : Nat->Nat->Int) (i j : Nat) (m0 m1 m2 m3 : Int) : Nat->Nat->Int:=fun a b=>if a = i then m0 * F i b + m1 * F j b else if a = j then m2 * F i b + m3 * F j b else F a b
structure Bst where
 s : Nat->Nat->Int
 t : Nat->Nat->Int
 i : Nat->Nat->Int
def Bst.add (x : Bst) (i j : Nat) (k : Int) : Bst:=⟨addF x.s i j k,addF x.t i j k,addF x.i j i (-k)⟩
def Bst.swap (x : Bst) (i j : Nat) : Bst:=⟨swpF x.s i j,swpF x.t i j,swpF x.i i j⟩
def Bst.neg (x : Bst) (i : Nat) : Bst:=⟨negF x.s i,negF x.t i,negF x.i i⟩
def okF (B R C : Nat) (F : Nat->Nat->Int) : Prop:=∀a,a < R->∀b,b < C->(F a b).natAbs < B
instance (B R C : Nat) (F : Nat->Nat->Int) : Decidable (okF B R C F):=by unfold okF; infer_instance
def okB (B n Cs Ct : Nat) (x : Bst) : Prop:=okF B n Cs x.s/\okF B n Ct x.t/\okF B n Ct x.i
instance (B n Cs Ct : Nat) (x : Bst) : Decidable (okB B n Cs Ct x):=by unfold okB; infer_instance
def okAdd (B n Cs Ct : Nat) (x : Bst) (i j : Nat) (k : Int) : Prop:=
 k.natAbs < B/\(∀t,t < Cs->(k * x.s j t).natAbs < B)/\(∀t,t < Ct->(k * x.t j t).natAbs < B/\(k * x.i i t).natAbs < B)/\okB B n Cs Ct (x.add i j k)
instance (B n Cs Ct : Nat) (x : Bst) (i j : Nat) (k : Int) : Decidable (okAdd B n Cs Ct x i j k):=by unfold okAdd; infer_instance
def lead (C : Nat) (F : Nat->Nat->Int) (i : Nat) : Int:=leadGo 0 (genV C (F i))
def adv (L : Nat->Int) (c : Int) : Nat->Nat->Nat
 | 0,k=>k
 | m + 1,k=>if L k < c then adv L c m (k + 1) else k
def rotB (k : Nat) : Nat->Bst->Bst
 | 0,x=>x
 | m + 1,x=>rotB k m (x.swap (k + m + 1) (k + m))
def takeGo (B n Cs Ct m rank : Nat) : Nat->Nat->Bst->Option (Bst × Bool)
 | 0,_,_=>none
 | f + 1,k,x=>
  if lead Cs x.s m < 0 then some (x,false)
  else if adv (lead Cs x.s) (lead Cs x.s m) (rank - k) k < rank/\lead Cs x.s (adv (lead Cs x.s) (lead Cs x.s m) (rank - k) k) = lead Cs x.s m then
   if okAdd B n Cs Ct x m (adv (lead Cs x.s) (lead Cs x.s m) (rank - k) k) (-(x.s m (lead Cs x.s m).toNat / x.s (adv (lead Cs x.s) (lead Cs x.s m) (rank - k) k) (lead Cs x.s m).toNat)) then
    takeGo B n Cs Ct m rank f (adv (lead Cs x.s) (lead Cs x.s m) (rank - k) k)
     (if x.s m (lead Cs x.s m).toNat % x.s (adv (lead Cs x.s) (lead Cs x.s m) (rank - k) k) (lead Cs x.s m).toNat = 0 then x.add m (adv (lead Cs x.s) (lead Cs x.s m) (rank - k) k) (-(x.s m (lead Cs x.s m).toNat / x.s (adv (lead Cs x.s) (lead Cs x.s m) (rank - k) k) (lead Cs x.s m).toNat))
      else (x.add m (adv (lead Cs x.s) (lead Cs x.s m) (rank - k) k) (-(x.s m (lead Cs x.s m).toNat / x.s (adv (lead Cs x.s) (lead Cs x.s m) (rank - k) k) (lead Cs x.s m).toNat))).swap m (adv (lead Cs x.s) (lead Cs x.s m) (rank - k) k))
   else none
  else some (rotB (adv (lead Cs x.s) (lead Cs x.s m) (rank - k) k) (rank - adv (lead Cs x.s) (lead Cs x.s m) (rank - k) k) ((if x.s m (lead Cs x.s m).toNat < 0 then x.neg m else x).swap m rank),true)
def redJ (B n Cs Ct : Nat) (cols : Nat->Int) (i : Nat) : Nat->Nat->Bst->Option Bst
 | 0,_,x=>some x
 | m + 1,j,x=>
  if cols j < 0 then none
  else if x.s i (cols j).toNat = 0 then redJ B n Cs Ct cols i m (j + 1) x
  else if x.s j (cols j).toNat = 0 then none
  else if x.s i (cols j).toNat / x.s j (cols j).toNat = 0 then redJ B n Cs Ct cols i m (j + 1) x
  else if okAdd B n Cs Ct x i j (-(x.s i (cols j).toNat / x.s j (cols j).toNat)) then redJ B n Cs Ct cols i m (j + 1) (x.add i j (-(x.s i (cols j).toNat / x.s j (cols j).toNat)))
  else none
def redI (B n Cs Ct : Nat) (cols : Nat->Int) (rank : Nat) : Nat->Bst->Option Bst
 | 0,x=>some x
 | i + 1,x=>(redJ B n Cs Ct cols i (rank - (i + 1)) (i + 1) x).bind (redI B n Cs Ct cols rank i)
def reduceB (B n Cs Ct rank : Nat) (x : Bst) : Option Bst:=redI B n Cs Ct (lead Cs x.s) rank rank x
def echGo (B n Cs Ct f : Nat) : Nat->Nat->Nat->Bst->Option Bst
 | 0,_,_,x=>some x
 | l + 1,m,rank,x=>
  (takeGo B n Cs Ct m rank f 0 x).bind fun r=>(reduceB B n Cs Ct (if r.2 then rank + 1 else rank) r.1).bind fun y=>echGo B n Cs Ct f l (m + 1) (if r.2 then rank + 1 else rank) y
def echB (B n Cs Ct f : Nat) (x : Bst) : Option Bst:=echGo B n Cs Ct f n 0 0 x
structure W5 where
 s : Nat->Nat->Int
 u : Nat->Nat->Int
 v : Nat->Nat->Int
 w : Nat->Nat->Int
 x : Nat->Nat->Int
def roundW (B R C Cu Cw f : Nat) (z : W5) : Option W5:=
 (echB B R C Cu f ⟨z.s,z.u,z.v⟩).bind fun a=>(echB B C R Cw f ⟨trF a.s,z.w,z.x⟩).bind fun b=>some ⟨trF b.s,a.t,a.i,b.t,b.i⟩
def diagF (R C : Nat) (F : Nat->Nat->Int) : Prop:=∀a,a < R->∀b,b < C->a ≠ b->F a b = 0
instance (R C : Nat) (F : Nat->Nat->Int) : Decidable (diagF R C F):=by unfold diagF; infer_instance
def runGo (B R C Cu Cw f : Nat) : Nat->W5->Option W5
 | 0,_=>none
 | r + 1,z=>(roundW B R C Cu Cw f z).bind fun y=>if diagF R C y.s then some y else runGo B R C Cu Cw f r y
def divS (F : Nat->Nat->Int) (i j : Nat) : Nat->Nat->Int:=fun a b=>if a = j/\b = j then F i i * (F j j / ((Int.gcd (F i i) (F j j) : Nat) : Int)) else if a = i/\b = i then ((Int.gcd (F i i) (F j j) : Nat) : Int) else F a b
def divW (z : W5) (i j : Nat) (s t : Int) : W5:=
 ⟨divS z.s i j,blendF z.u i j s t (-(z.s j j / ((Int.gcd (z.s i i) (z.s j j) : Nat) : Int))) (z.s i i / ((Int.gcd (z.s i i) (z.s j j) : Nat) : Int)),
  blendF z.v i j (z.s i i / ((Int.gcd (z.s i i) (z.s j j) : Nat) : Int)) (z.s j j / ((Int.gcd (z.s i i) (z.s j j) : Nat) : Int)) (-t) s,
  blendF z.w i j 1 1 (-(t * (z.s j j / ((Int.gcd (z.s i i) (z.s j j) : Nat) : Int)))) (1 - t * (z.s j j / ((Int.gcd (z.s i i) (z.s j j) : Nat) : Int))),
  blendF z.x i j (1 - t * (z.s j j / ((Int.gcd (z.s i i) (z.s j j) : Nat) : Int))) (t * (z.s j j / ((Int.gcd (z.s i i) (z.s j j) : Nat) : Int))) (-1) 1⟩
def Bez (x y s t : Int) : Prop:=s * x + t * y = ((Int.gcd x y : Nat) : Int)/\s.natAbs<=max 1 y.natAbs/\t.natAbs<=max 1 x.natAbs
inductive DivR (n : Nat) : W5->W5->Prop
 | refl (z : W5) : DivR n z z
 | step (z y : W5) (i j : Nat) (s t : Int) : DivR n z y->i < j->j < n->¬ y.s i i ∣ y.s j j->Bez (y.s i i) (y.s j j) s t->DivR n z (divW y i j s t)
def divJ (i : Nat) : Nat->Nat->(Nat->Nat->Int)->(Nat->Nat->Int)
 | 0,_,F=>F
 | m + 1,j,F=>divJ i m (j + 1) (if F i i ∣ F j j then F else divS F i j)
def divI : Nat->Nat->(Nat->Nat->Int)->(Nat->Nat->Int)
 | 0,_,F=>F
 | m + 1,i,F=>divI m (i + 1) (divJ i m (i + 1) F)
example : (runGo 1000000 2 1 2 1 20 5 ⟨fun a _=>if a = 0 then 4 else 6,fun a b=>if a = b then 1 else 0,fun a b=>if a = b then 1 else 0,fun _ _=>1,fun _ _=>1⟩).map (fun z=>(z.s 0 0,z.s 1 0,z.u 0 0,z.u 0 1,z.u 1 0,z.u 1 1)) = some (2,0,-1,1,3,-2):=by decide
structure OnlyZ (Z : Nat->Prop) (w w' : World) : Prop where
 bel : Below 0 w w'
 lext : LExt w w'
 old : ∀k,k < w.heap.size->¬ Z k->w'.heap[k]? = w.heap[k]?
theorem OnlyZ.refl (Z : Nat->Prop) (w : World) : OnlyZ Z w w:=⟨Below.refl _ _,LExt.refl _,fun _ _ _=>rfl⟩
theorem OnlyZ.of {w w' : World} (Z : Nat->Prop) (h : Below w.heap.size w w') : OnlyZ Z w w':=⟨h.mono (Nat.zero_le _),lx h,fun k hk _=>h.block k hk⟩
theorem OnlyZ.trans {Z : Nat->Prop} {a b c : World} (h : OnlyZ Z a b) (k : OnlyZ Z b c) : OnlyZ Z a c:=
 ⟨h.bel.trans k.bel,h.lext.trans k.lext,fun i hi hn=>(k.old i (Nat.lt_of_lt_of_le hi h.bel.size) hn).trans (h.old i hi hn)⟩
theorem OnlyZ.mono {Z Z' : Nat->Prop} {w w' : World} (h : OnlyZ Z w w') (hs : ∀k,k < w.heap.size->Z k->Z' k) : OnlyZ Z' w w':=⟨h.bel,h.lext,fun k hk hn=>h.old k hk (fun hh=>hn (hs k hk hh))⟩
theorem OnlyZ.blk {Z : Nat->Prop} {w w' : World} {b : Nat} {T : TypeId} {cs : Array Value} (h : OnlyZ Z w w') (hb : Blk w b T cs) (hz : ¬ Z b) : Blk w' b T cs:=(h.old b hb.lt hz).trans hb
theorem RowsO.gblk {w : World} {base g n cap C : Nat} {bs : List Nat} {M : List (List Int)} (h : RowsO w base (.slice (some ⟨g,0,none⟩) n cap) C bs M) : ∃cur,Blk w g tR cur/\n<=cur.size:=by
 rcases h.own.2 with ⟨e,h0⟩ | ⟨g',cap',cur,e,e2,e3,e4,e5,e6,e7⟩
 ·cases e
 ·injection e with e8 e9 e10
  injection e8 with e8
  injection e8 with e8
  subst e8
  subst e9
  exact ⟨cur,e3,by omega⟩
theorem Wri.rowAt {w : World} {A : Value} {R C : Nat} {bs : List Nat} {F : Nat->Nat->Int} (h : Wri w A R C bs F) {i b : Nat} (hi : i < R) (hb : bs[i]? = some b) : RowAt w b (genV C (F i)):=by
 obtain ⟨b',e1,e2⟩:=RowsO.rowAt h hi
 obtain rfl : b' = b:=Option.some.inj (e1.symm.trans hb)
 exact e2
def M4V (w : World) (v : Value) (m0 m1 m2 m3 : Int) : Prop:=
 ∃s0 a0 l0 c0 s1 a1 l1 c1 s2 a2 l2 c2 s3 a3 l3 c3,v = .agg #[.bool s0,.slice a0 l0 c0,.bool s1,.slice a1 l1 c1,.bool s2,.slice a2 l2 c2,.bool s3,.slice a3 l3 c3] ∧
  IntV w (.agg #[.bool s0,.slice a0 l0 c0]) m0/\IntV w (.agg #[.bool s1,.slice a1 l1 c1]) m1/\IntV w (.agg #[.bool s2,.slice a2 l2 c2]) m2/\IntV w (.agg #[.bool s3,.slice a3 l3 c3]) m3
theorem M4V.ext {w w' : World} {v : Value} {m0 m1 m2 m3 : Int} (h : M4V w v m0 m1 m2 m3) (x : LExt w w') : M4V w' v m0 m1 m2 m3:=by
 obtain ⟨s0,a0,l0,c0,s1,a1,l1,c1,s2,a2,l2,c2,s3,a3,l3,c3,e,h0,h1,h2,h3⟩:=h
 exact ⟨s0,a0,l0,c0,s1,a1,l1,c1,s2,a2,l2,c2,s3,a3,l3,c3,e,h0.ext x,h1.ext x,h2.ext x,h3.ext x⟩
def BlSm (n : Nat) (f g : Nat->Int) (m0 m1 m2 m3 : Int) : Prop:=∀t,t < n->Sm (f t)/\Sm (g t)/\Sm (m0 * f t)/\Sm (m1 * g t)/\Sm (m2 * f t)/\Sm (m3 * g t)
structure BandZ (Z : Nat->Prop) (w : World) (As At Ai : Value) (n Cs Ct : Nat) (x : Bst) : Prop where
 ex : ∃bss bst bsi,BandV w As At Ai n Cs Ct bss bst bsi x.s x.t x.i/\(∀b,b ∈ bss ∨ b ∈ bst ∨ b ∈ bsi->Z b)
 own : ∀g,As.ownBlock = some g ∨ At.ownBlock = some g ∨ Ai.ownBlock = some g->Z g
theorem BandZ.below {Z : Nat->Prop} {w w' : World} {As At Ai : Value} {n Cs Ct : Nat} {x : Bst} (h : BandZ Z w As At Ai n Cs Ct x) (hb : Below w.heap.size w w') : BandZ Z w' As At Ai n Cs Ct x:=by
 obtain ⟨⟨bss,bst,bsi,⟨h1,h2,h3,h4,h5,h6,h7,h8,h9⟩,hz⟩,ho⟩:=h
 exact ⟨⟨bss,bst,bsi,⟨h1.below hb,h2.below hb,h3.below hb,h4,h5,h6,h7,h8,h9⟩,hz⟩,ho⟩
structure BSm (B : Nat) : Prop where
 sm : ∀z : Int,z.natAbs < B->Sm z
theorem BandZ.shape {Z : Nat->Prop} {w : World} {As At Ai : Value} {n Cs Ct : Nat} {x : Bst} (h : BandZ Z w As At Ai n Cs Ct x) : ∃so sc uo tc io ic,As = .slice so n sc/\At = .slice uo n tc/\Ai = .slice io n ic/\n<=sc/\sc<=9223372036854775807/\(0 < n->∃g,so = some ⟨g,0,none⟩):=by
 obtain ⟨⟨bss,bst,bsi,hv,hz⟩,ho⟩:=h
 obtain ⟨so,sn,sc,e1,s1,s2,s3,-⟩:=id (RowsO.rows hv.s)
 obtain ⟨uo,tn,tc,e2,t1,t2,t3,-⟩:=id (RowsO.rows hv.t)
 obtain ⟨io,in_,ic,e3,i1,i2,i3,-⟩:=id (RowsO.rows hv.i)
 obtain rfl : n = sn:=by rw [<-s1]; simp [genM]
 obtain rfl : n = tn:=by rw [<-t1]; simp [genM]
 obtain rfl : n = in_:=by rw [<-i1]; simp [genM]
 refine ⟨so,sc,uo,tc,io,ic,e1,e2,e3,s2,s3,fun hn=>?_⟩
 have hs:=hv.s
 rw [e1] at hs
 obtain ⟨g,b,e,-⟩:=RowsO.at_ hs (i:=0) (by rw [hs.len]; exact hn)
 exact ⟨g,e⟩
theorem BandZ.row {Z : Nat->Prop} {w : World} {At Ai : Value} {g n sc Cs Ct : Nat} {x : Bst} (h : BandZ Z w (.slice (some ⟨g,0,none⟩) n sc) At Ai n Cs Ct x) {i : Nat} (hi : i < n) :
  ∃b,w.cell? ⟨g,i,none⟩ = some (.slice (some ⟨b,0,none⟩) Cs Cs)/\RowAt w b (genV Cs (x.s i)):=by
 obtain ⟨⟨bss,bst,bsi,hv,hz⟩,ho⟩:=h
 obtain ⟨g',b,e,hg,hb,hb2,o1,-⟩:=RowsO.at_ hv.s (i:=i) (by rw [hv.s.len]; exact hi)
 injection e with e
 injection e with e
 subst e
 exact ⟨b,o1,hv.s.rowAt hi hb⟩
theorem leadGo_spec (k : Nat) (zs : List Int) : (leadGo k zs = -1/\∀z ∈ zs,z = 0) ∨ ∃j,leadGo k zs = ((k + j : Nat) : Int)/\j < zs.length/\zs.getD j 0 ≠ 0/\∀t,t < j->zs.getD t 0 = 0:=by
 induction zs generalizing k with
 | nil=>exact .inl ⟨rfl,fun z hz=>by cases hz⟩
 | cons z zs ih=>
  unfold leadGo
  by_cases hz : z = 0
  ·rw [if_neg (by simp [hz])]
   rcases ih (k + 1) with ⟨h1,h2⟩ | ⟨j,h1,h2,h3,h4⟩
   ·refine .inl ⟨h1,fun y hy=>?_⟩
    rcases List.mem_cons.1 hy with rfl | hy
    ·exact hz
    ·exact h2 y hy
   ·refine .inr ⟨j + 1,by rw [h1]; congr 1; omega,by simp; omega,by simpa using h3,fun t ht=>?_⟩
    cases t with
    | zero=>simpa using hz
    | succ t=>simpa using h4 t oM
  ·rw [if_pos hz]
   exact .inr ⟨0,by simp,by simp,by simpa using hz,fun t ht=>by omega⟩
theorem getD_genV {n : Nat} {f : Nat->Int} {j : Nat} (h : j < n) : (genV n f).getD j 0 = f j:=by rw [List.getD_eq_getElem?_getD,genV_get h]; rfl
theorem lead_spec (C : Nat) (F : Nat->Nat->Int) (i : Nat) : (lead C F i = -1/\∀t,t < C->F i t = 0) ∨ ∃j : Nat,lead C F i = (j : Int)/\j < C/\F i j ≠ 0/\∀t,t < j->F i t = 0:=by
 unfold lead
 rcases leadGo_spec 0 (genV C (F i)) with ⟨h1,h2⟩ | ⟨j,h1,h2,h3,h4⟩
 ·exact .inl ⟨h1,fun t ht=>h2 _ (List.mem_of_getElem? (genV_get ht))⟩
 ·rw [genV_length] at h2
  rw [getD_genV h2] at h3
  refine .inr ⟨j,by rw [h1]; simp,h2,h3,fun t ht=>?_⟩
  have:=h4 t ht
  rwa [getD_genV oM] at this
theorem lead_nat {C : Nat} {F : Nat->Nat->Int} {i : Nat} (h : ¬ lead C F i < 0) : ∃c : Nat,lead C F i = (c : Int)/\c < C/\F i c ≠ 0/\∀t,t < c->F i t = 0:=by
 rcases lead_spec C F i with ⟨h1,-⟩ | h1
 ·omega
 ·exact h1
noncomputable def leastOf (P : Nat->Prop) : Nat:=open Classical in if h : ∃f,P f/\∀g,P g->f<=g then h.choose else 0
theorem least_ex {P : Nat->Prop} : ∀f,P f->∃f,P f/\∀g,P g->f<=g:=by
 intro f
 induction f using Nat.strongRecOn with
 | _ f ih=>
  intro hf
  by_cases h : ∃g,g < f/\P g
  ·obtain ⟨g,h1,h2⟩:=h
   exact ih g h1 h2
  ·refine ⟨f,hf,fun g hg=>?_⟩
   rcases Nat.lt_or_ge g f with h3 | h3
   ·exact absurd ⟨g,h3,hg⟩ h
   ·exact h3
theorem leastOf_spec {P : Nat->Prop} {f : Nat} (h : P f) : P (leastOf P)/\∀g,P g->leastOf P<=g:=by
 have hx : ∃f,P f/\∀g,P g->f<=g:=least_ex f h
 unfold leastOf
 rw [dif_pos hx]
 exact hx.choose_spec
theorem leastOf_lt {P : Nat->Prop} {f n : Nat} (h : P f) (hf : f < n) : leastOf P < n:=Nat.lt_of_le_of_lt ((leastOf_spec h).2 f h) hf
section
variable {P : Program} {a : Act} {w : World} {Q : Exit->Act->World->Prop}
end
def DMV (a b : Int) : World->Value->Prop:=fun w v=>∃q r,v = .tuple #[q,r,.int .i64 0]/\IntV w q (a / b)/\IntV w r (a % b)
theorem okAdd.ok {B n Cs Ct : Nat} {x : Bst} {i j : Nat} {k : Int} (h : okAdd B n Cs Ct x i j k) : okB B n Cs Ct (x.add i j k):=h.2.2.2
theorem IntV.two {w : World} {x y : Value} {z : Int} (h : IntV w (.agg #[x,y]) z) : ∃s a l c,x = .bool s/\y = .slice a l c:=by
 obtain ⟨s,a,l,c,xs,e,-⟩:=id h
 injection e with e
 simp only [Array.mk.injEq,List.cons.injEq] at e
 exact ⟨s,a,l,c,e.1,e.2.1⟩
abbrev tN : TypeId:=3
def colArr (n : Nat) (g : Nat->Int) : Array Value:=((List.range n).map fun i=>Value.int .i64 (g i)).toArray
def uptoC (f : Nat->Int) (j : Nat) : Nat->Int:=fun t=>if t < j then f t else 0
theorem RowsO.same {w w' : World} {base : Nat} {A : Value} {C : Nat} {bs : List Nat} {M : List (List Int)} (h : RowsO w base A C bs M) (hb : ∀b ∈ bs,w'.heap[b]? = w.heap[b]?) (ho : ∀g,A.ownBlock = some g->w'.heap[g]? = w.heap[g]?) (x : LExt w w') : RowsO w' base A C bs M:=by
 refine ⟨⟨h.own.1,?_⟩,h.len,fun k b r h1 h2=>by
  obtain ⟨e1,e2,e3⟩:=h.row k b r h1 h2
  exact ⟨e1,e2,e3.old (hb b (List.mem_of_getElem? h1)) x⟩,h.nodup,h.cb⟩
 rcases h.own.2 with h1 | ⟨g,cap,cur,e1,e2,e3⟩
 ·exact .inl h1
 ·exact .inr ⟨g,cap,cur,e1,e2,(ho g (by rw [e1]; rfl)).trans e3.1,e3.2⟩
theorem BandZ.same {Z : Nat->Prop} {w w' : World} {As At Ai : Value} {n Cs Ct : Nat} {x : Bst} (h : BandZ Z w As At Ai n Cs Ct x) (e : ∀k,Z k->w'.heap[k]? = w.heap[k]?) (hx : LExt w w') : BandZ Z w' As At Ai n Cs Ct x:=by
 obtain ⟨⟨bss,bst,bsi,⟨h1,h2,h3,h4,h5,h6,h7,h8,h9⟩,hz⟩,ho⟩:=h
 exact ⟨⟨bss,bst,bsi,⟨RowsO.same h1 (fun b hb=>e b (hz b (.inl hb))) (fun g hg=>e g (ho g (.inl hg))) hx,RowsO.same h2 (fun b hb=>e b (hz b (.inr (.inl hb)))) (fun g hg=>e g (ho g (.inr (.inl hg)))) hx,
  RowsO.same h3 (fun b hb=>e b (hz b (.inr (.inr hb)))) (fun g hg=>e g (ho g (.inr (.inr hg)))) hx,h4,h5,h6,h7,h8,h9⟩,hz⟩,ho⟩
theorem lead_lt {C : Nat} {F : Nat->Nat->Int} {i : Nat} (h : ¬ lead C F i < 0) : (lead C F i).toNat < C:=by
 obtain ⟨c,h1,h2,-⟩:=lead_nat h
 omega

def M2V (m0 m1 : Int) : World->Value->Prop:=fun w v=>∃s0 a0 l0 c0 s1 a1 l1 c1,v = .agg #[.bool s0,.slice a0 l0 c0,.bool s1,.slice a1 l1 c1]/\IntV w (.agg #[.bool s0,.slice a0 l0 c0]) m0/\IntV w (.agg #[.bool s1,.slice a1 l1 c1]) m1
inductive Op where
 | add (i j : Nat) (k : Int)
 | swap (i j : Nat)
 | neg (i : Nat)
def Op.f : Op->(Nat->Nat->Int)->(Nat->Nat->Int)
 | .add i j k,F=>addF F i j k
 | .swap i j,F=>swpF F i j
 | .neg i,F=>negF F i
def Op.d : Op->(Nat->Nat->Int)->(Nat->Nat->Int)
 | .add i j k,F=>addF F j i (-k)
 | .swap i j,F=>swpF F i j
 | .neg i,F=>negF F i
def Op.b (o : Op) (x : Bst) : Bst:=⟨o.f x.s,o.f x.t,o.d x.i⟩
def Op.g : Op->Nat
 | .add _ _ k=>1 + k.natAbs
 | _=>1
def Op.ok (n : Nat) : Op->Prop
 | .add i j _=>i < n/\j < n/\i ≠ j
 | .swap i j=>i < n/\j < n
 | .neg i=>i < n
def opsF : List Op->(Nat->Nat->Int)->(Nat->Nat->Int)
 | [],F=>F
 | o :: l,F=>opsF l (o.f F)
def opsD : List Op->(Nat->Nat->Int)->(Nat->Nat->Int)
 | [],F=>F
 | o :: l,F=>opsD l (o.d F)
def opsB : List Op->Bst->Bst
 | [],x=>x
 | o :: l,x=>opsB l (o.b x)
def gro : List Op->Nat
 | []=>1
 | o :: l=>o.g * gro l
def okOps (n : Nat) (l : List Op) : Prop:=∀o ∈ l,o.ok n
theorem opsB_eq (l : List Op) : ∀x : Bst,opsB l x = ⟨opsF l x.s,opsF l x.t,opsD l x.i⟩:=by
 induction l with
 | nil=>intro x; rfl
 | cons o l ih=>intro x; exact ih _
theorem opsB_app (l m : List Op) : ∀x,opsB (l ++ m) x = opsB m (opsB l x):=by
 induction l with
 | nil=>intro F; rfl
 | cons o l ih=>intro F; exact ih _
theorem okOps.app {n : Nat} {l m : List Op} (h : okOps n l) (k : okOps n m) : okOps n (l ++ m):=fun o ho=>(List.mem_append.1 ho).elim (h o) (k o)
theorem okOps.cons {n : Nat} {o : Op} {m : List Op} (h : o.ok n) (k : okOps n m) : okOps n (o :: m):=fun p hp=>by
 rcases List.mem_cons.1 hp with rfl | hp
 ·exact h
 ·exact k p hp
theorem okOps.nil {n : Nat} : okOps n []:=fun o ho=>by cases ho
def leM (M n C : Nat) (F : Nat->Nat->Int) : Prop:=∀a,a < n->∀b,b < C->(F a b).natAbs<=M
theorem leM.mono {M M' n C : Nat} {F : Nat->Nat->Int} (h : leM M n C F) (hM : M<=M') : leM M' n C F:=fun a ha b hb=>Nat.le_trans (h a ha b hb) hM
theorem leM.ok {M B n C : Nat} {F : Nat->Nat->Int} (h : leM M n C F) (hM : M < B) : okF B n C F:=fun a ha b hb=>Nat.lt_of_le_of_lt (h a ha b hb) hM
theorem leM_add {M n C i j : Nat} {k : Int} {F : Nat->Nat->Int} (h : leM M n C F) (hi : i < n) (hj : j < n) : leM (M * (1 + k.natAbs)) n C (addF F i j k):=by
 intro a ha b hb
 unfold addF
 split
 ·have h1:=h i hi b hb
  have h2:=h j hj b hb
  have h3 : (k * F j b).natAbs<=k.natAbs * M:=by rw [Int.natAbs_mul]; exact Nat.mul_le_mul_left _ h2
  have h4 : (F i b + k * F j b).natAbs<=(F i b).natAbs + (k * F j b).natAbs:=by omega
  rw [Nat.mul_add,Nat.mul_one,Nat.mul_comm M]
  omega
 ·exact Nat.le_trans (h a ha b hb) (Nat.le_mul_of_pos_right _ oM)
theorem swp_lt {i j a n : Nat} (hi : i < n) (hj : j < n) (ha : a < n) : swp i j a < n:=by unfold swp; split; exact hj; split; exact hi; exact ha
theorem leM_f {M n C : Nat} {o : Op} {F : Nat->Nat->Int} (h : leM M n C F) (ho : o.ok n) : leM (M * o.g) n C (o.f F):=by
 cases o with
 | add i j k=>exact leM_add h ho.1 ho.2.1
 | swap i j=>
  intro a ha b hb
  simp only [Op.g,Nat.mul_one]
  exact h _ (swp_lt ho.1 ho.2 ha) b hb
 | neg i=>
  intro a ha b hb
  simp only [Op.g,Nat.mul_one,Op.f,negF]
  split
  ·rw [Int.natAbs_neg]; exact h a ha b hb
  ·exact h a ha b hb
theorem leM_d {M n C : Nat} {o : Op} {F : Nat->Nat->Int} (h : leM M n C F) (ho : o.ok n) : leM (M * o.g) n C (o.d F):=by
 cases o with
 | add i j k=>
  have:=leM_add (k:=-k) h ho.2.1 ho.1
  rwa [Int.natAbs_neg] at this
 | swap i j=>exact leM_f (o:=.swap i j) h ho
 | neg i=>exact leM_f (o:=.neg i) h ho
def leB (M n Cs Ct : Nat) (x : Bst) : Prop:=leM M n Cs x.s/\leM M n Ct x.t/\leM M n Ct x.i
theorem leB_b {M n Cs Ct : Nat} {o : Op} {x : Bst} (h : leB M n Cs Ct x) (ho : o.ok n) : leB (M * o.g) n Cs Ct (o.b x):=⟨leM_f h.1 ho,leM_f h.2.1 ho,leM_d h.2.2 ho⟩
theorem okAdd_of {B M n Cs Ct i j : Nat} {k : Int} {x : Bst} (h : leB M n Cs Ct x) (hi : i < n) (hj : j < n) (hij : i ≠ j) (hM : 1<=M) (hB : M * (1 + k.natAbs) < B) : okAdd B n Cs Ct x i j k:=by
 have e : M * (1 + k.natAbs) = M + M * k.natAbs:=by rw [Nat.mul_add,Nat.mul_one]
 have hk : k.natAbs<=M * k.natAbs:=Nat.le_mul_of_pos_left _ hM
 have hp : ∀z : Int,z.natAbs<=M->(k * z).natAbs < B:=fun z hz=>by
  have : k.natAbs * z.natAbs<=k.natAbs * M:=Nat.mul_le_mul_left _ hz
  rw [Int.natAbs_mul]
  rw [Nat.mul_comm k.natAbs M] at this
  omega
 have h2:=leB_b (o:=.add i j k) h ⟨hi,hj,hij⟩
 exact ⟨by omega,fun t ht=>hp _ (h.1 j hj t ht),fun t ht=>⟨hp _ (h.2.1 j hj t ht),hp _ (h.2.2 i hi t ht)⟩,h2.1.ok hB,h2.2.1.ok hB,h2.2.2.ok hB⟩
theorem f_lin {n R b : Nat} {o : Op} {P F G : Nat->Nat->Int} (ho : o.ok n) (h : ∀a,a < n->F a b = sumN R fun t=>P a t * G t b) : ∀a,a < n->o.f F a b = sumN R fun t=>o.f P a t * G t b:=by
 intro a ha
 cases o with
 | add i j k=>
  show (if a = i then F i b + k * F j b else F a b) = sumN R fun t=>(if a = i then P i t + k * P j t else P a t) * G t b
  by_cases e : a = i
  ·rw [if_pos e,h i ho.1,h j ho.2.1,<-sumN_mul,<-sumN_add]
   refine sumN_congr fun t ht=>?_
   rw [if_pos e,Int.add_mul,Int.mul_assoc]
  ·rw [if_neg e,h a ha]
   refine sumN_congr fun t ht=>?_
   rw [if_neg e]
 | swap i j=>exact h _ (swp_lt ho.1 ho.2 ha)
 | neg i=>
  show (if a = i then -(F a b) else F a b) = sumN R fun t=>(if a = i then -(P a t) else P a t) * G t b
  by_cases e : a = i
  ·rw [if_pos e,h a ha,<-Int.neg_one_mul,<-sumN_mul]
   refine sumN_congr fun t ht=>?_
   rw [if_pos e,Int.neg_mul,Int.neg_mul,Int.one_mul]
  ·rw [if_neg e,h a ha]
   refine sumN_congr fun t ht=>?_
   rw [if_neg e]
theorem ops_lin {n R b : Nat} {l : List Op} (hl : okOps n l) : ∀{P F G : Nat->Nat->Int},(∀a,a < n->F a b = sumN R fun t=>P a t * G t b)->∀a,a < n->opsF l F a b = sumN R fun t=>opsF l P a t * G t b:=by
 induction l with
 | nil=>intro P F G h; exact h
 | cons o l ih=>
  intro P F G h
  exact ih (fun p hp=>hl p (List.mem_cons_of_mem _ hp)) (f_lin (hl o (List.mem_cons_self ..)) h)
theorem idf_sum {n a : Nat} (ha : a < n) (G : Nat->Int) : G a = sumN n fun t=>idf a t * G t:=by
 rw [sumN_one (c:=a) ha]
 ·unfold idf; rw [if_pos rfl,Int.one_mul]
 ·intro i hi hne
  unfold idf; rw [if_neg (fun e=>hne e.symm),Int.zero_mul]
theorem ops_mat {n : Nat} {l : List Op} (hl : okOps n l) (F : Nat->Nat->Int) : ∀a,a < n->∀b,opsF l F a b = sumN n fun t=>opsF l idf a t * F t b:=
 fun a ha b=>ops_lin hl (fun a ha=>idf_sum ha fun t=>F t b) a ha
def dot (C : Nat) (P Q : Nat->Nat->Int) (a b : Nat) : Int:=sumN C fun t=>P a t * Q b t
theorem op_dot {n C : Nat} {o : Op} {P Q : Nat->Nat->Int} (ho : o.ok n) (h : ∀a,a < n->∀b,b < n->dot C P Q a b = idf a b) : ∀a,a < n->∀b,b < n->dot C (o.f P) (o.d Q) a b = idf a b:=by
 intro a ha b hb
 cases o with
 | add i j k=>
  obtain ⟨hi,hj,hij⟩:=ho
  have e : dot C (addF P i j k) (addF Q j i (-k)) a b = dot C P Q a b + (if a = i then k * dot C P Q j b else 0) + (if b = j then (-k) * dot C P Q a i + (if a = i then (-k) * (k * dot C P Q j i) else 0) else 0):=by
   unfold dot addF
   by_cases e1 : a = i
   ·subst e1
    by_cases e2 : b = j
    ·subst e2
     simp only [if_true]
     rw [<-sumN_mul,<-sumN_mul,<-sumN_mul,<-sumN_mul,<-sumN_add,<-sumN_add,<-sumN_add]
     refine sumN_congr fun t ht=>?_
     generalize P a t = p
     generalize P b t = q
     generalize Q a t = r
     generalize Q b t = s
     grind
    ·simp only [if_true,if_neg e2]
     rw [<-sumN_mul,<-sumN_add,Int.add_zero]
     refine sumN_congr fun t ht=>?_
     rw [Int.add_mul,Int.mul_assoc]
   ·by_cases e2 : b = j
    ·subst e2
     simp only [if_true,if_neg e1]
     rw [<-sumN_mul,Int.add_zero,Int.add_zero,<-sumN_add]
     refine sumN_congr fun t ht=>?_
     rw [Int.mul_add,Int.mul_left_comm]
    ·simp only [if_neg e1,if_neg e2]
     rw [Int.add_zero,Int.add_zero]
  show dot C (addF P i j k) (addF Q j i (-k)) a b = _
  rw [e,h a ha b hb,h j hj b hb,h a ha i hi,h j hj i hi]
  unfold idf
  have hji : ¬ j = i:=fun h=>hij h.symm
  by_cases e1 : a = i
  ·by_cases e2 : b = j
   ·subst e1
    subst e2
    simp [hij,hji]
    omega
   ·have e3 : ¬ j = b:=fun h=>e2 h.symm
    subst e1
    simp [e2,e3]
  ·by_cases e2 : b = j
   ·subst e2
    simp [e1]
   ·simp [e1,e2]
 | swap i j=>
  show dot C P Q (swp i j a) (swp i j b) = _
  rw [h _ (swp_lt ho.1 ho.2 ha) _ (swp_lt ho.1 ho.2 hb)]
  unfold idf swp
  split <;> split <;> (try split) <;> (try split) <;> (try split) <;> (try split) <;> first | rfl | omega
 | neg i=>
  have e : dot C (negF P i) (negF Q i) a b = (if a = i then -1 else 1) * ((if b = i then -1 else 1) * dot C P Q a b):=by
   unfold dot negF
   rw [<-sumN_mul,<-sumN_mul]
   refine sumN_congr fun t ht=>?_
   generalize P a t = p
   generalize Q b t = q
   split <;> split <;> grind
  show dot C (negF P i) (negF Q i) a b = _
  rw [e,h a ha b hb]
  unfold idf
  split <;> split <;> split <;> omega
theorem ops_dot {n C : Nat} {l : List Op} (hl : okOps n l) : ∀{P Q : Nat->Nat->Int},(∀a,a < n->∀b,b < n->dot C P Q a b = idf a b)->∀a,a < n->∀b,b < n->dot C (opsF l P) (opsD l Q) a b = idf a b:=by
 induction l with
 | nil=>intro P Q h; exact h
 | cons o l ih=>
  intro P Q h
  exact ih (fun p hp=>hl p (List.mem_cons_of_mem _ hp)) (op_dot (hl o (List.mem_cons_self ..)) h)
def cod (n : Nat) (Q P : Nat->Nat->Int) (a b : Nat) : Int:=sumN n fun t=>Q t a * P t b
theorem sum_shift {n i j : Nat} {f g : Nat->Int} {d : Int} (hi : i < n) (hj : j < n) (hij : i ≠ j) (h : ∀t,t < n->t ≠ i->t ≠ j->f t = g t) (h1 : f i = g i + d) (h2 : f j = g j - d) : sumN n f = sumN n g:=by
 have e : sumN n (fun t=>f t - g t) = 0:=by
  have : ∀m,m<=n->sumN m (fun t=>f t - g t) = (if i < m then d else 0) - (if j < m then d else 0):=by
   intro m
   induction m with
   | zero=>intro _; rfl
   | succ m ih=>
    intro hm
    show sumN m _ + (f m - g m) = _
    rw [ih oM]
    by_cases e1 : m = i
    ·subst e1
     rw [h1]
     split <;> split <;> split <;> (try split) <;> omega
    ·by_cases e2 : m = j
     ·subst e2
      rw [h2]
      split <;> split <;> split <;> (try split) <;> omega
     ·rw [h m oM e1 e2]
      split <;> split <;> split <;> (try split) <;> omega
  rw [this n (Nat.le_refl _),if_pos hi,if_pos hj]
  omega
 have e2 : sumN n f = sumN n g + sumN n (fun t=>f t - g t):=by
  rw [<-sumN_add]
  exact sumN_congr fun t ht=>by omega
 omega
theorem sum_swp {n i j : Nat} (hi : i < n) (hj : j < n) (f : Nat->Int) : sumN n (fun t=>f (swp i j t)) = sumN n f:=by
 by_cases hij : i = j
 ·subst hij
  refine sumN_congr fun t ht=>?_
  unfold swp; split <;> (try split) <;> simp_all
 ·refine sum_shift (d:=f j - f i) hi hj hij (fun t ht h1 h2=>?_) ?_ ?_
  ·unfold swp; rw [if_neg h1,if_neg h2]
  ·unfold swp; rw [if_pos rfl]; omega
  ·unfold swp; rw [if_neg oM,if_pos rfl]; omega
theorem op_cod {n : Nat} {o : Op} {P Q : Nat->Nat->Int} (ho : o.ok n) (a b : Nat) : cod n (o.d Q) (o.f P) a b = cod n Q P a b:=by
 cases o with
 | add i j k=>
  obtain ⟨hi,hj,hij⟩:=ho
  refine sum_shift (i:=i) (j:=j) (d:=k * (Q i a * P j b)) hi hj hij (fun t ht h1 h2=>?_) ?_ ?_
  ·simp only [Op.d,Op.f,addF,if_neg h1,if_neg h2]
  ·simp only [Op.d,Op.f,addF,if_true,if_neg hij]
   rw [Int.mul_add,Int.mul_left_comm]
  ·simp only [Op.d,Op.f,addF,if_true,if_neg (fun h=>hij (Eq.symm h))]
   rw [Int.add_mul,Int.mul_assoc,Int.neg_mul]
   rfl
 | swap i j=>exact sum_swp ho.1 ho.2 fun t=>Q t a * P t b
 | neg i=>
  refine sumN_congr fun t ht=>?_
  simp only [Op.d,Op.f,negF]
  split
  ·rw [Int.neg_mul_neg]
  ·rfl
theorem ops_cod {n : Nat} {l : List Op} (hl : okOps n l) : ∀{P Q : Nat->Nat->Int} (a b : Nat),cod n (opsD l Q) (opsF l P) a b = cod n Q P a b:=by
 induction l with
 | nil=>intro P Q a b; rfl
 | cons o l ih=>
  intro P Q a b
  show cod n (opsD l (o.d Q)) (opsF l (o.f P)) a b = _
  rw [ih (fun p hp=>hl p (List.mem_cons_of_mem _ hp)),op_cod (hl o (List.mem_cons_self ..))]
theorem ops_back {n : Nat} {l : List Op} (hl : okOps n l) (F : Nat->Nat->Int) : ∀a,a < n->∀b,F a b = sumN n fun t=>opsD l idf t a * opsF l F t b:=by
 intro a ha b
 have h1:=ops_cod (P:=F) (Q:=idf) hl a b
 unfold cod at h1
 rw [h1,sumN_one (c:=a) ha]
 ·unfold idf; rw [if_pos rfl,Int.one_mul]
 ·intro t ht hne
  unfold idf; rw [if_neg hne,Int.zero_mul]
def partRows (n C : Nat) (bs : List Nat) : Array Value:=(rowPtrs C bs ++ List.replicate (n - bs.length) (Value.slice none 0 0)).toArray

def trUp (f : Nat->Nat->Int) (i j : Nat) : Nat->Nat->Int:=fun a b=>if b < i ∨ (b = i/\a < j) then f a b else 0
def Zn (A : Value) (bs : List Nat) (b : Nat) : Prop:=b ∈ bs ∨ A.ownBlock = some b
def Ap (A : Value) (bs : List Nat) (A' : Value) (bs' : List Nat) : Prop:=∀b,Zn A bs b->¬ Zn A' bs' b
theorem Ap.far {A A' : Value} {bs bs' : List Nat} (h : Ap A bs A' bs') : Far bs bs':=fun b h1 h2=>h b (.inl h1) (.inl h2)
theorem Ap.own {A A' : Value} {bs bs' : List Nat} (h : Ap A bs A' bs') : ∀g,A.ownBlock = some g->A'.ownBlock ≠ some g:=fun g h1 h2=>h g (.inr h1) (.inr h2)
theorem Ap.symm {A A' : Value} {bs bs' : List Nat} (h : Ap A bs A' bs') : Ap A' bs' A bs:=fun b h1 h2=>h b h2 h1
theorem Wri.zlt {w : World} {A : Value} {R C : Nat} {bs : List Nat} {F : Nat->Nat->Int} (h : Wri w A R C bs F) {b : Nat} (hb : Zn A bs b) : b < w.heap.size:=by
 rcases hb with hb | hb
 ·exact (h.blk hb).elim fun r hr=>hr.lt
 ·rcases (RowsO.own h).2 with ⟨rfl,-⟩ | ⟨g,cap,cur,rfl,-,hh,-⟩
  ·cases hb
  ·simp only [Value.ownBlock,Option.some.injEq] at hb
   subst hb
   exact (Array.getElem?_eq_some_iff.1 hh).1
theorem Wri.keepZ {Z : Nat->Prop} {w w' : World} {A : Value} {R C : Nat} {bs : List Nat} {F : Nat->Nat->Int} (h : Wri w A R C bs F) (ho : OnlyZ Z w w') (hz : ∀b,Zn A bs b->¬ Z b) : Wri w' A R C bs F:=
 RowsO.same h (fun b hb=>ho.old b (h.zlt (.inl hb)) (hz b (.inl hb))) (fun g hg=>ho.old g (h.zlt (.inr hg)) (hz g (.inr hg))) ho.lext
theorem Wri.rown {w : World} {A A' : Value} {R C R' C' : Nat} {bs bs' : List Nat} {F F' : Nat->Nat->Int} (h : Wri w A R C bs F) (h' : Wri w A' R' C' bs' F') {b : Nat} (hb : b ∈ bs) : A'.ownBlock ≠ some b:=by
 intro e
 obtain ⟨r,hr⟩:=h.blk hb
 exact own_ne (RowsO.own h') hr e.symm
theorem Ap.of {w : World} {A A' : Value} {R C R' C' : Nat} {bs bs' : List Nat} {F F' : Nat->Nat->Int} (h : Wri w A R C bs F) (h' : Wri w A' R' C' bs' F') (hf : Far bs bs') (ho : ∀g,A.ownBlock = some g->A'.ownBlock ≠ some g) : Ap A bs A' bs':=by
 intro b h1 h2
 rcases h1 with h1 | h1
 ·rcases h2 with h2 | h2
  ·exact hf b h1 h2
  ·exact h.rown h' h1 h2
 ·rcases h2 with h2 | h2
  ·exact h'.rown h h2 h1
  ·exact ho b h1 h2
theorem Wri.mat {w : World} {A : Value} {R C : Nat} {bs : List Nat} {F : Nat->Nat->Int} (h : Wri w A R C bs F) : MatV w (.agg #[.int .i64 R,.int .i64 C,A]) R C (genM R C F):=⟨A,rfl,RowsO.rows h⟩
structure BSd (B : Nat) : Prop where
 smd : ∀z : Int,z.natAbs < B->Smd z
theorem BSd.bsm {B : Nat} (h : BSd B) : BSm B:=⟨fun z hz=>(h.smd z hz).sm⟩
def okTw (B C : Nat) (F : Nat->Nat->Int) (i j : Nat) (m0 m1 m2 m3 : Int) : Prop:=
 m0.natAbs < B/\m1.natAbs < B/\m2.natAbs < B/\m3.natAbs < B/\∀t,t < C->(F i t).natAbs < B/\(F j t).natAbs < B/\(m0 * F i t).natAbs < B/\(m1 * F j t).natAbs < B/\(m2 * F i t).natAbs < B/\(m3 * F j t).natAbs < B
structure DivOk (B C Cu Cw : Nat) (z : W5) (i j : Nat) : Prop where
 sz : (z.s i i).natAbs < B/\(z.s j j).natAbs < B
 g0 : Int.gcd (z.s i i) (z.s j j) ≠ 0
 all : ∀g u v s t : Int,g = ((Int.gcd (z.s i i) (z.s j j) : Nat) : Int)->u = z.s i i / g->v = z.s j j / g->Bez (z.s i i) (z.s j j) s t ->
  (z.s i i * v).natAbs < B/\(t * v).natAbs < B/\okTw B Cu z.u i j s t (-v) u/\okTw B Cu z.v i j u v (-t) s/\okTw B Cw z.w i j 1 1 (-(t * v)) (1 - t * v)/\okTw B Cw z.x i j (1 - t * v) (t * v) (-1) 1
section
variable {P : Program} {ops : Array Oper} {Q : Exit->Act->World->Prop}
def reach (ops : Array Oper) : Nat->Nat->Nat->Bool
 | 0,j,k=>j == k
 | f + 1,j,k=>j == k || ((ops[j]?).map (fun o=>o.after.any fun e=>Region.binds .any e && reach ops f e.on k)).getD false
theorem reach_spec {L : Array Bool} (hcl : ClosedL ops L) : ∀{f j k : Nat},reach ops f j k = true->L[j]? = some true->L[k]? = some true:=by
 intro f
 induction f with
 | zero=>
  intro j k h hj
  unfold reach at h
  rw [<-(beq_iff_eq.1 h)]
  exact hj
 | succ f ih=>
  intro j k h hj
  unfold reach at h
  rw [Bool.or_eq_true] at h
  rcases h with h | h
  ·rw [<-(beq_iff_eq.1 h)]
   exact hj
  ·cases ho : ops[j]? with
   | none=>rw [ho] at h; simp at h
   | some o=>
    rw [ho] at h
    simp only [Option.map_some,Option.getD_some] at h
    rw [<-Array.any_toList,List.any_eq_true] at h
    obtain ⟨e,he,h2⟩:=h
    rw [Bool.and_eq_true] at h2
    refine ih h2.2 (hcl j o ho hj e.on ?_)
    unfold waits
    rw [<-Array.any_toList,List.any_eq_true]
    exact ⟨e,he,by simp [h2.1]⟩
variable {W : World} {n0 : Nat} {T0 : Array Value} {tB : TypeId} {vs : List VS} {bs : List BS} {es : List ES} {L : Array Bool} {T : Array Value} {w w' : World}
theorem RI.skip {k : Nat} (h : RI W n0 T0 tB vs bs es L T w) (h1 : ∀s ∈ vs,s.op ≠ k) (h2 : ∀s ∈ bs,s.al ≠ k/\s.st ≠ k) (h3 : ∀s ∈ es,s.st ≠ k) : RI W n0 T0 tB vs bs es (L.setIfInBounds k true) T w:=
 ⟨h.wf,h.tb,h.lv,h.lb,h.le,h.eb,h.ed,h.size,h.keep,h.bel0,h.old,h.lext,h.ge,
  fun s hs hl=>listed_mono (h.sto s hs (set_true hl (Ne.symm (h2 s hs).2))),
  fun s hs hl=>h.val s hs (set_true hl (Ne.symm (h1 s hs))),
  fun s hs hl=>by
   obtain ⟨b,x,y,e1,e2,e3,e4⟩:=h.box s hs (set_true hl (Ne.symm (h2 s hs).1))
   exact ⟨b,x,y,e1,e2,e3,fun hh=>e4 (set_true hh (Ne.symm (h2 s hs).2))⟩,
  fun s hs t ht hne l1 l2 b c e1 e2=>h.far s hs t ht hne (set_true l1 (Ne.symm (h2 s hs).1)) (set_true l2 (Ne.symm (h2 t ht).1)) b c e1 e2,
  fun s hs=>by
   obtain ⟨⟨x,y,e1,e2⟩,e3⟩:=h.ex s hs
   exact ⟨⟨x,y,e1,fun hh=>e2 (set_true hh (Ne.symm (h3 s hs)))⟩,fun hh=>e3 (set_ne hh)⟩⟩
def cellOf (T : Array Value) (sl k : Nat) : Value:=match T[sl]? with
 | some (.agg cs)=>cs.getD k undef
 | _=>undef
def put2At (sl b o : Nat) : Array Value->World->World:=fun T w=>(w.setCell ⟨b,o,none⟩ (cellOf T sl 0)).setCell ⟨b,o + 1,none⟩ (cellOf T sl 1)
structure RIS (W : World) (n0 : Nat) (T0 : Array Value) (tB : TypeId) (vs : List VS) (bs : List BS) (es : List ES) (k1 k2 : Nat) (p1 : World->World) (p2 : Array Value->World->World) (L : Array Bool) (T : Array Value) (w : World) : Prop where
 ex : ∃w0,RI W n0 T0 tB vs bs es L T w0/\(L[k1]? ≠ some true->w = w0)/\(L[k1]? = some true->L[k2]? ≠ some true->w = p1 w0)/\(L[k2]? = some true->w = p2 T (p1 w0))
variable {n k1 k2 : Nat} {p1 : World->World} {p2 : Array Value->World->World}
theorem RIS.start (h : RI W n0 T0 tB vs bs es (Array.replicate n false) T w) : RIS W n0 T0 tB vs bs es k1 k2 p1 p2 (Array.replicate n false) T w:=by
 have hf : ∀k : Nat,(Array.replicate n false)[k]? ≠ some true:=by
  intro k h
  rw [Array.getElem?_replicate] at h
  split at h <;> simp at h
 exact ⟨w,h,fun _=>rfl,fun h1=>absurd h1 (hf _),fun h1=>absurd h1 (hf _)⟩
theorem RIS.value {k : Nat} {v : Value} (h : RIS W n0 T0 tB vs bs es k1 k2 p1 p2 L T w) (hcl : ClosedL ops L) (hr2 : reach ops 9 k2 k = true) (hL : L[k]? = some false) (hk : k ≠ k1/\k ≠ k2) (s : VS) (hs : s ∈ vs) (hsk : s.op = k) (hP : ∀w,s.P w v) :
  RIS W n0 T0 tB vs bs es k1 k2 p1 p2 (L.setIfInBounds k true) (T.setIfInBounds s.slot v) w:=by
 obtain ⟨w0,hri,h1,h2,h3⟩:=h.ex
 have hn2 : L[k2]? ≠ some true:=fun hh=>by
  have:=reach_spec hcl hr2 hh
  rw [hL] at this
  cases this
 exact ⟨w0,hri.value s hs hsk (hP w0),fun hh=>h1 (set_ne hh),fun hh hh2=>h2 (set_true hh hk.1) (set_ne hh2),fun hh=>absurd (set_true hh hk.2) hn2⟩
theorem RIS.val {s : VS} (h : RIS W n0 T0 tB vs bs es k1 k2 p1 p2 L T w) (hs : s ∈ vs) (hl : L[s.op]? = some true) (hP : ∀w w' v,s.P w v->s.P w' v) : ∃v,T[s.slot]? = some v/\∀w,s.P w v:=by
 obtain ⟨w0,hri,-⟩:=h.ex
 obtain ⟨v,e1,e2⟩:=hri.val s hs hl
 exact ⟨v,e1,fun w=>hP _ _ _ e2⟩
theorem RIS.keep {j : Nat} (h : RIS W n0 T0 tB vs bs es k1 k2 p1 p2 L T w) (h1 : ∀s ∈ vs,s.slot ≠ j) (h2 : ∀s ∈ bs,s.slot ≠ j) : T[j]? = T0[j]?:=by
 obtain ⟨w0,hri,-⟩:=h.ex
 exact hri.keep j h1 h2
theorem RIS.fin (h : RIS W n0 T0 tB vs bs es k1 k2 p1 p2 (Array.replicate n true) T w) (hk : k2 < n) : ∃w0,RI W n0 T0 tB vs bs es (Array.replicate n true) T w0/\w = p2 T (p1 w0):=by
 obtain ⟨w0,hri,g1,g2,g3⟩:=h.ex
 exact ⟨w0,hri,g3 (by simp [hk])⟩
end
end Go.Proofs.YtjdemlfceaikgaaGreat
