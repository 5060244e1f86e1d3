/- torsionref13.determinant. Plain: the invariants and the determinant. torsionref05.Transpose; torsionref13: combine, combineColumns. torsionref13: combine, combineColumns. -/
import Derived.Test.YtnocgagoaldfnaaGreatD20
import Derived.Test.YtnocgagoaldfnaaGreatD32
import Derived.Test.YtnocgagoaldfnaaGreatD46
import Derived.Test.YtnocgagoaldfnaaGreatV01
import Derived.Test.YtnocgagoaldfnaaGreatV02
set_option linter.unusedVariables false
set_option linter.unusedSimpArgs false
set_option linter.unusedSectionVars false
namespace Go.Proofs.YtnocgagoaldfnaaGreat
open Go.RowKit
theorem OwnN.mono {w : World} {base base' : Nat} {v : Value} {xs : List Nat} (h : OwnN w base v xs) (hb : base'<=base) : OwnN w base' v xs:=
 ⟨h.1,h.2.1,h.2.2.imp id fun ⟨g,cap,cur,e,k,r⟩=>⟨g,cap,cur,e,Nat.le_trans hb k,r⟩⟩
theorem OwnN.first {w : World} {base : Nat} {v : Value} {xs : List Nat} (h : OwnN w base v xs) (hn : xs ≠ []) :
  ∃b cap,v = .slice (some ⟨b,0,none⟩) xs.length cap/\base<=b/\b < w.heap.size/\xs.length<=cap/\cap<=9223372036854775807/\NatsAt w (some ⟨b,0,none⟩) xs:=by
 obtain ⟨ao,cap,rfl,h1,h2,h3⟩:=h.at_
 obtain ⟨b,off,cs,rfl,-,-⟩:=h3.2 hn
 rcases h.2.2 with ⟨h0,-⟩ | ⟨g,c,cur,e,k,r,-⟩
 ·cases h0
 ·injection e with e1 e2 e3
  injection e1 with e1
  injection e1 with e1 e4
  subst e1
  subst e4
  exact ⟨b,cap,rfl,k,(Array.getElem?_eq_some_iff.1 r).1,h1,h2,h3⟩
theorem NatsAt.drop0 {w : World} {b : Nat} {xs : List Nat} (h : NatsAt w (some ⟨b,0,none⟩) xs) (k : Nat) : NatsAt w (some ⟨b,k,none⟩) (xs.drop k):=by
 have:=h.drop k
 rwa [Nat.zero_add] at this
theorem NatsAt.at_old {w w' : World} {b o : Nat} {xs : List Nat} (h : NatsAt w (some ⟨b,o,none⟩) xs) (e : w'.heap[b]? = w.heap[b]?) : NatsAt w' (some ⟨b,o,none⟩) xs:=
 h.block fun b' o' e' _=>by injection e' with e'; injection e' with e'; subst e'; exact e
theorem NatsAt.dropc {w : World} {b c : Nat} {xs : List Nat} (h : NatsAt w (some ⟨b,0,none⟩) xs) (k : Nat) (hc : xs.length<=c:=by simpa using ‹_›) : NatsAt w (if c = k then some ⟨b,0,none⟩ else some ⟨b,k,none⟩) (xs.drop k):=by
 split
 ·rename_i e
  rw [List.drop_eq_nil_of_le oM]
  exact NatsAt.nil _ _
 ·exact h.drop0 k
theorem NatsAt.only {S : List Nat} {w w' : World} {b o : Nat} {xs : List Nat} (h : NatsAt w (some ⟨b,o,none⟩) xs) (ho : Only S w w') (hb : b ∉ S) : NatsAt w' (some ⟨b,o,none⟩) xs:=
 h.block fun b' o' e hlt=>ho.old b' hlt (by injection e with e; injection e with e; subst e; exact hb)
theorem lastsB_own (base : Nat) (xs : List Nat) : LastsB (fun w v=>OwnN w base v xs):=fun _ _ _ e h=>h.below e
def NewB (t : TypeId) (n0 : Nat) (cs : Array Value) (w : World) (v : Value) : Prop:=∃b,v = .pointer (some ⟨b,0,none⟩)/\n0<=b/\Blk w b t cs
theorem lastsB_new (t : TypeId) (n0 : Nat) (cs : Array Value) : LastsB (NewB t n0 cs):=fun _ _ _ e ⟨b,h1,h2,h3⟩=>⟨b,h1,h2,h3.below e⟩
theorem MatV.typed {w w' : World} {v : Value} {R C : Int} {M : List (List Int)} (h : MatV w v R C M) (e : ∀(b : Nat) (cs : Array Value) (t : TypeId),w.heap[b]? = some (.cells cs t (0,0))->t = 35 ∨ t = tI->w'.heap[b]? = w.heap[b]?) (x : LExt w w') : MatV w' v R C M:=by
 obtain ⟨A,h1,ao,n,cap,k1,k2,k3,k4,k5⟩:=h
 refine ⟨A,h1,ao,n,cap,k1,k2,k3,k4,fun hn=>?_⟩
 obtain ⟨b,cs,e1,e2,e3⟩:=k5 hn
 refine ⟨b,cs,e1,(e b cs _ e2 (.inl rfl)).trans e2,fun k zs hk=>?_⟩
 obtain ⟨rv,e4,ao',n',cap',j1,j2,j3,j4,j5⟩:=e3 k zs hk
 refine ⟨rv,e4,ao',n',cap',j1,j2,j3,j4,fun hz=>?_⟩
 obtain ⟨b',i1,cs',i2,i3⟩:=j5 hz
 exact ⟨b',i1,RowAt.old ⟨cs',i2,i3⟩ (e b' cs' _ i2 (.inr rfl)) x⟩
theorem MatV.put3 {w : World} {v : Value} {R C : Int} {M : List (List Int)} {b : Nat} {cs : Array Value} (h : MatV w v R C M) (hb : Blk w b 28 cs) (x y z : Value) (hx : LExt w (((w.setCell ⟨b,0,none⟩ x).setCell ⟨b,1,none⟩ y).setCell ⟨b,2,none⟩ z)) :
  MatV (((w.setCell ⟨b,0,none⟩ x).setCell ⟨b,1,none⟩ y).setCell ⟨b,2,none⟩ z) v R C M:=
 h.typed (fun b' cs' t hb' ht=>set3_old _ _ _ _ _ _ (by
  rintro rfl
  have e:=congrArg (fun o : Option Obj=>match o with | some (Obj.cells _ t _)=>t | _=>0) (hb.symm.trans hb')
  replace e : (28 : TypeId) = t:=e
  rcases ht with ht | ht <;> rw [ht] at e <;> exact absurd e dE)) hx
def PickT (R C : Int) (M : List (List Int)) (w : World) (v : Value) : Prop:=∃u,v = .tuple #[u,.int .i64 0]/\MatV w u R C M
theorem lastsB_pick (R C : Int) (M : List (List Int)) : LastsB (PickT R C M):=fun _ _ _ e ⟨u,h1,h2⟩=>⟨u,h1,h2.below e⟩
set_option maxHeartbeats 8000000 in
set_option maxRecDepth 20000 in
theorem determinant_any : ∀(n : Nat) (v : Value) (M : List (List Int)) (w : World),MatV w v n n M->Fits n n M->n<=4->leM 1048576 n n (ent M) ->
  Calls Tryz.prog 80 #[v] w (RetInt w (det n (ent M))):=by
 intro n
 induction n with
 | zero=>
  intro v M w h hF _ _
  obtain ⟨A,rfl,h⟩:=h
  obtain ⟨ao,n,cap,rfl,e2,e3,e4,-⟩:=id h
  go_enter Tryz.func80,Tryz.ntmps80
  go_upto_region 1 with (fail)
  refine wp_world ?_
  intro W0 hW0
  obtain ⟨hB0,bx1,br,hs0⟩:=world2 hW0
  obtain ⟨c1,c2,c3,c4,c5,c6⟩:=bx1.three
  go_wp2_with fail
  refine (r1of_any 1 W0 oM oM).mono ?_
  rintro e w2 ⟨u,rfl,hu,hb2⟩
  obtain ⟨un,ua,ul,uc,ux,rfl,hu'⟩:=id hu
  have HU:=Lib.hid hu'
  clear hu'
  have br:=br.below hb2
  obtain ⟨r1,r2,r3,r4⟩:=br.two
  go_wp2
  refine bodyPost_int rfl rfl rfl (br.put2 _ _) (hu.ext (br.lext2 dE _ _)) (bset (bset (nx hB0 hb2) oM 0 _) oM 1 _)
 | succ n ih=>
  intro v M w h hF hn hA
  obtain ⟨N,hN⟩ : ∃N,N = n + 1:=⟨_,rfl⟩
  have HD : HidS (lap n M N = det (n + 1) (ent M)):=⟨by rw [hN]; rfl⟩
  have HT : HidS (∀k,k < N->(ent M 0 k * det n (mnr (ent M) 0 k)).natAbs<=24 * 1048576 ^ 4):=⟨fun k hk=>Nat.le_trans (term_small oM oM hA) dE⟩
  have HM : HidS (∀k,k < N->Smd (det n (mnr (ent M) 0 k))):=⟨fun k hk=>small24_smd (Nat.le_trans (det_small oM (leM_mnr (k:=k) hA)) dE)⟩
  have HE : HidS (∀k,k < N->Smd (ent M 0 k)):=⟨fun k hk=>small24_smd (Nat.le_trans (hA 0 oM k oM) dE)⟩
  have HL : HidS (∀k,k<=N->Smd (lap n M k)):=⟨fun k hk=>small24_smd (lap_small oM oM hA)⟩
  rw [<-HD.out]
  rw [<-hN] at h hF hA
  obtain ⟨A,rfl,h⟩:=h
  obtain ⟨ao,n1,cap,rfl,e2,e3,e4,-⟩:=id h
  obtain rfl : N = n1:=by rw [<-e2,hF.1]
  have HF:=HidS.mk hF
  have HA:=HidS.mk hA
  have HX:=Lib.hid e2
  have hMV : MatV w (.agg #[.int .i64 (N : Int),.int .i64 (N : Int),.slice ao N cap]) N N M:=⟨_,rfl,h⟩
  have HN:=Lib.hid hN
  have hpos : 0 < N:=by omega
  have h4 : N<=4:=by omega
  have h3 : n<=3:=by omega
  clear hF hA e2 HD hn hN
  go_enter Tryz.func80,Tryz.ntmps80
  go_upto_region 1 with (fail)
  refine wp_world ?_
  intro W0 hW0
  obtain ⟨hB0,bx1,br,hs0⟩:=world2 hW0
  obtain ⟨c1,c2,c3,c4,c5,c6⟩:=bx1.three
  have hne : ((N : Int) == 0) = false:=by rw [beq_eq_false_iff_ne]; omega
  go_upto_region 3 with (fail)
  have l0:=br.lt
  have hLN:=lastsB_own W0.heap.size (List.range N)
  have hLB:=lastsB_new 45 W0.heap.size #[.bool false,.slice none 0 0]
  refine wp_region_headed 5 rfl (RV W0 _ [⟨0,14,fun w v=>IntV w v (0)⟩,⟨1,15,fun _ v=>v = .pointer (some ⟨w.heap.size,0,none⟩)⟩,⟨2,16,fun _ v=>v = .int .i64 N⟩,⟨3,17,fun w' v=>OwnN w' W0.heap.size v (List.range N)⟩,⟨4,3,NewB 45 W0.heap.size #[.bool false,.slice none 0 0]⟩]) kR RV.start ?fin1 ?steps1
  case steps1=>
   refine ⟨?_,?_,?_,?_,?_,trivial⟩ <;> (intro L T wS hL hd hcl hI K hK; try refine step_wanted rfl ?_)
   ·go_simp
    refine (r1of_any 0 wS oM oM).mono ?_
    rintro e wa ⟨v,rfl,hv,hba⟩
    exact hK _ _ ((hI.world hba).y mm0 hv)
   ·have zt : T[1]? = some (.pointer (some ⟨w.heap.size,0,none⟩)):=hI.keep 1 sI
    go_simp
    exact hK _ _ (hI.y mm1 rfl)
   ·obtain ⟨_,zt1,rfl⟩:=hI.v mm1 (hd 1)
    have cc0:=hI.cell c1
    go_simp
    exact hK _ _ (hI.y mm2 rfl)
   ·obtain ⟨_,zt2,rfl⟩:=hI.v mm2 (hd 2)
    go_simp
    refine (range_any N wS oM).mono ?_
    rintro e wa ⟨v,rfl,hv,hba⟩; replace hv:=hv.mono hI.bel.size
    exact hK _ _ ((hI.world hba).y mm3 hv)
   ·go_simp
    exact hK _ _ ((hI.world ((Below.refl _ _).alloc (Nat.le_refl _) _)).y mm4 ⟨_,rfl,hI.bel.size,Blk.new _ _ _⟩)
  intro T W3 hI
  obtain ⟨va0,q0,ha0⟩:=hI.v mm0 rfl
  replace ha0 : IntV W3 va0 (0):=ha0
  obtain ⟨va1,q1,rfl⟩:=hI.v mm1 rfl
  obtain ⟨va2,q2,rfl⟩:=hI.v mm2 rfl
  obtain ⟨va3,q3,ha3⟩:=hI.v mm3 rfl
  obtain ⟨va4,q4,ha4⟩:=hI.v mm4 rfl
  have hT:=tmps_set [(14,va0),(15,.pointer (some ⟨w.heap.size,0,none⟩)),(16,.int .i64 N),(17,va3),(3,va4)]
   (fun j hj=>hI.keep j (by simp only [List.forall_mem_cons] at hj ⊢; simp [hj]))
   (by simp only [List.forall_mem_cons]; simp [q0,q1,q2,q3,q4]) hI.size
  have hbW3:=hI.bel
  clear hI
  simp only [List.foldl_cons,List.foldl_nil,List.setIfInBounds_toArray,List.set_cons_zero,List.set_cons_succ,ptr] at hT
  subst hT
  clear q0 q1 q2 q3 q4
  simp only [List.drop_succ_cons,List.drop_zero]
  obtain ⟨b3,rfl,hb3,T3⟩:=ha4
  obtain ⟨rb,rc,rfl,hrb,hrb2,hrc,hrc2,hrows⟩:=ha3.first (by rw [HN.out]; simp)
  rw [List.length_range] at hrc ⊢
  obtain ⟨un,ua,ul,uc,ux,rfl,hu'⟩:=id ha0
  have HU:=Lib.hid hu'
  clear hu' hLN hLB
  obtain ⟨d1,d2,d3,d4⟩:=T3.two
  have bx1:=bx1.below hbW3
  have br:=br.below hbW3
  have hne3 : rb ≠ b3:=fun e=>by
   subst e
   obtain ⟨b',o',cs,e1,e2,-⟩:=hrows.2 (by rw [HN.out]; simp)
   injection e1 with e1
   injection e1 with e1
   subst e1
   exact absurd (congrArg (fun o : Option Obj=>match o with | some (Obj.cells _ t _)=>t | _=>0) (T3.symm.trans e2)) (show ¬ (45 : TypeId) = tNn by decide)
  go_wp2
  clear c1 c2 c3 c4 c5 c6
  go_loopw [5] (fun jv wr=>∃j : Nat,j<=N/\jv = .int .i64 j/\Below w.heap.size w wr/\Blk wr w.heap.size 28 #[.int .i64 N,.int .i64 N,.slice ao N cap]/\Blk wr (w.heap.size + 1) 45 #[.bool false,.slice none 0 0]/\NatsAt wr (some ⟨rb,0,none⟩) (List.range N)/\rb < wr.heap.size/\BoxI wr b3 (lap n M j)) (fun jv _=>N - (intOf jv).toNat)
  case atStart=>exact ⟨0,by omega,rfl,bset (bset (nx hB0 hbW3) oM _ _) oM _ _,(set2_old _ _ _ _ _ _ _ oM).trans bx1,(set2_old _ _ _ _ _ _ _ oM).trans br,hrows.at_old (set2_old _ _ _ _ _ _ _ hne3),by simpa using hrb2,BoxI.put T3 ha0⟩
  case round=>
   clear bx1 br d1 d2 d3 d4 T3 hrows ha0 ha3 hrb2
   obtain ⟨j,hj,rfl,hb,bx1,br,hrows,hrb2,z3⟩:=hrel
   obtain ⟨c1,c2,c3,c4,c5,c6⟩:=bx1.three
   by_cases hlt : j < N
   ·have lt1:=bx1.lt
    have l3:=z3.lt
    have l0:=br.lt
    have hlr : ((List.range N).take j).length = j:=by rw [List.length_take,List.length_range]; omega
    go_upto_region 8 with (at_builtin; refine appN rfl _ _ rfl wr.heap.size (.slice (some ⟨wr.heap.size,0,none⟩) 0 0) [] rfl (OwnN.empty wr wr.heap.size (Nat.le_refl _)) (some ⟨rb,0,none⟩) j rc ((List.range N).take j) rfl ((hrows.below ((Below.refl _ _).alloc (Nat.le_refl _) _)).take j) hlr (by simp; omega) (Nat.le_of_lt (World.size_alloc ..  ▸ Nat.lt_succ_self _)) ?_; intro v6 w6 hown hgr)
    have hgr : World.grownBy (wr.alloc (.cells #[] tNn)) w6 (some wr.heap.size):=hgr
    have hown : OwnN w6 wr.heap.size v6 ((List.range N).take j):=hown
    have hb6 : Below wr.heap.size wr w6:=((Below.refl wr.heap.size wr).alloc (Nat.le_refl _) _).grown hgr sI (fun g hg=>by injection hg with hg; omega)
    have q6:=hb6.size
    have hN6:=hrows.below hb6
    have hS : ∀b,b < wr.heap.size->b ∉ v6.ownBlock.toList:=fun b hb hm=>by
     have:=(hown.own b (by simpa using hm)).1
     omega
    have bx6:=bx1.below hb6
    have br6:=br.below hb6
    have z36:=z3.below hb6
    have hbw6:=nx hb hb6
    clear c1 c2 c3 c4 c5 c6
    obtain ⟨c1,c2,c3,c4,c5,c6⟩:=bx6.three
    have hLN:=lastsB_own wr.heap.size (skipL N j)
    have h1N : (1 : Int)<=(N : Int):=by omega
    have hwj : IntKind.i64.wrap ((j : Int) + 1) = (j : Int) + 1:=IntWalk.i64_in _ oM
    have hjN : (j : Int) + 1<=(N : Int):=by omega
    have hLP:=lastsB_pick ((N - 1 : Nat) : Int) ((skipL N j).length : Int) (genM (N - 1) (skipL N j).length (pickF M ((List.range N).drop 1) (skipL N j)))
    have hLB:=lastsB_new 28 w6.heap.size #[.int .i64 0,.int .i64 0,.slice none 0 0]
    have hdl : ((List.range N).drop 1).length = N - 1:=by rw [List.length_drop,List.length_range]
    have hsl : (skipL N j).length<=1000000:=by rw [HN.out] at hlt ⊢; rw [skipL_len hlt]; have:=HN.out; omega
    refine wp_region_headed 15 rfl (RAS (v6.ownBlock.toList) 8 w6 _ [⟨0,30,fun _ v=>v = .agg #[.int .i64 N,.int .i64 N,.slice ao N cap]⟩,⟨1,31,fun _ v=>v = .slice (some ⟨rb,0,none⟩) N rc⟩,⟨2,32,fun _ v=>v = .slice (if rc = 1 then some ⟨rb,0,none⟩ else some ⟨rb,1,none⟩) (N - 1) (rc - 1)⟩,⟨3,33,fun _ v=>v = v6⟩,⟨4,34,fun _ v=>v = .slice (some ⟨rb,0,none⟩) N rc⟩,⟨5,35,fun _ v=>v = .int .i64 j⟩,⟨6,36,fun _ v=>v = .int .i64 (j + 1)⟩,⟨7,37,fun _ v=>v = .slice (if rc = j + 1 then some ⟨rb,0,none⟩ else some ⟨rb,j + 1,none⟩) (N - (j + 1)) (rc - (j + 1))⟩,⟨8,38,fun w v=>OwnN w wr.heap.size v (skipL N j)⟩,⟨9,39,PickT ((N - 1 : Nat) : Int) ((skipL N j).length : Int) (genM (N - 1) (skipL N j).length (pickF M ((List.range N).drop 1) (skipL N j)))⟩,⟨10,29,PickT ((N - 1 : Nat) : Int) ((skipL N j).length : Int) (genM (N - 1) (skipL N j).length (pickF M ((List.range N).drop 1) (skipL N j)))⟩,⟨11,40,fun w v=>MatV w v ((N - 1 : Nat) : Int) ((skipL N j).length : Int) (genM (N - 1) (skipL N j).length (pickF M ((List.range N).drop 1) (skipL N j)))⟩,⟨12,41,fun _ v=>v = .int .i64 0⟩,⟨13,7,NewB 28 w6.heap.size #[.int .i64 0,.int .i64 0,.slice none 0 0]⟩] 14 (put3 7 40)) kR (RAS.start (RA.start kR (by repeat' (first | exact lastsB_int _ | exact lastsB_eq _ | exact lastsB_mat _ _ _ | exact lastsB_vec _ | assumption | refine List.forall_mem_cons.2 ⟨?_,?_⟩ | exact List.forall_mem_nil _)))) ?fin2 ?steps2
    case steps2=>
     refine ⟨?_,?_,?_,?_,?_,?_,?_,?_,?_,?_,?_,?_,?_,?_,?_,trivial⟩
     ·refine StepAt.liftA kR dE ?_
      intro L T wS hL hd hcl hI K hK
      try refine step_wanted rfl ?_
      have zt : T[1]? = some (.pointer (some ⟨w.heap.size,0,none⟩)):=hI.keep 1 sI
      have cc0:=hI.cell (hS _ oM) oM c1
      have cc1:=hI.cell (hS _ oM) oM c2
      have cc2:=hI.cell (hS _ oM) oM c3
      go_simp
      exact hK _ _ (hI.y mm0 rfl)
     ·refine StepAt.liftA kR dE ?_
      intro L T wS hL hd hcl hI K hK
      try refine step_wanted rfl ?_
      have zt : T[4]? = some (.slice (some ⟨rb,0,none⟩) N rc):=hI.keep 4 sI
      go_simp
      exact hK _ _ (hI.y mm1 rfl)
     ·refine StepAt.liftA kR dE ?_
      intro L T wS hL hd hcl hI K hK
      try refine step_wanted rfl ?_
      obtain ⟨_,zt1,rfl⟩:=hI.v mm1 (hd 1)
      go_simp
      exact hK _ _ (hI.y mm2 rfl)
     ·refine StepAt.liftA kR dE ?_
      intro L T wS hL hd hcl hI K hK
      try refine step_wanted rfl ?_
      have zt : T[6]? = some v6:=hI.keep 6 sI
      go_simp
      exact hK _ _ (hI.y mm3 rfl)
     ·refine StepAt.liftA kR dE ?_
      intro L T wS hL hd hcl hI K hK
      try refine step_wanted rfl ?_
      have zt : T[4]? = some (.slice (some ⟨rb,0,none⟩) N rc):=hI.keep 4 sI
      go_simp
      exact hK _ _ (hI.y mm4 rfl)
     ·refine StepAt.liftA kR dE ?_
      intro L T wS hL hd hcl hI K hK
      try refine step_wanted rfl ?_
      have zt : T[5]? = some (.int .i64 j):=hI.keep 5 sI
      go_simp
      exact hK _ _ (hI.y mm5 rfl)
     ·refine StepAt.liftA kR dE ?_
      intro L T wS hL hd hcl hI K hK
      try refine step_wanted rfl ?_
      obtain ⟨_,zt5,rfl⟩:=hI.v mm5 (hd 5)
      go_simp
      exact hK _ _ (hI.y mm6 rfl)
     ·refine StepAt.liftA kR dE ?_
      intro L T wS hL hd hcl hI K hK
      try refine step_wanted rfl ?_
      obtain ⟨_,zt4,rfl⟩:=hI.v mm4 (hd 4)
      obtain ⟨_,zt6,rfl⟩:=hI.v mm6 (hd 6)
      go_simp
      exact hK _ _ (hI.y mm7 rfl)
     ·refine StepAt.liftA kR dE ?_
      intro L T wS hL hd hcl hI K hK
      try refine step_wanted rfl ?_
      obtain ⟨z3v,zt3,hz3⟩:=hI.v mm3 (hd 3)
      replace hz3 : z3v = v6:=hz3
      rw [hz3] at zt3
      obtain ⟨_,zt7,rfl⟩:=hI.v mm7 (hd 7)
      have hbz:=hI.bef hL
      have qz:=hbz.size
      refine wpN _ _ rfl wr.heap.size v6 ((List.range N).take j) (by simp [Act.eval,zt3]) (hown.below hbz) _ (N - (j + 1)) (rc - (j + 1)) ((List.range N).drop (j + 1)) (by simp [Act.eval,zt7]) ((hN6.dropc (c:=rc) (j + 1)).below hbz) sI (by simp; omega) oM ?_
      intro v8 wz h1 h2
      have hoz:=only_grown h2 (lext_grown (hown.below hbz).2 dE h2)
      exact hK _ _ (hI.turn ⟨8,38,_⟩ mm8 rfl (Array.getElem?_eq_some_iff.1 hL).1 hoz (by repeat' (first | exact List.forall_mem_nil _ | refine List.forall_mem_cons.2 ⟨?_,?_⟩ | exact fun _ _ _ hv=>hv | exact fun h=>absurd rfl h | exact fun _ _ _ ⟨b,g1,g2,g3⟩=>⟨b,g1,g2,g3.only hoz (fun hm=>absurd (hown.own b (by simpa using hm)).2 oM)⟩ | exact fun _ hl=>absurd (reach_spec (f:=3) hcl kR hl) (by rw [hL]; simp))) h1)
     ·refine StepAt.liftA kR dE ?_
      intro L T wS hL hd hcl hI K hK
      try refine step_wanted rfl ?_
      obtain ⟨_,zt0,rfl⟩:=hI.v mm0 (hd 0)
      obtain ⟨_,zt2,rfl⟩:=hI.v mm2 (hd 2)
      obtain ⟨z8,zt8,hz8⟩:=hI.v mm8 (hd 8)
      replace hz8 : OwnN wS wr.heap.size z8 (skipL N j):=hz8
      obtain ⟨co,cc,rfl,-,-,hcc⟩:=hz8.at_
      have hbS:=Below.only hbw6 hI.onl oM (fun b hm=>by have:=(hown.own b (by simpa using hm)).1; omega)
      have hNS:=(hN6.only hI.onl (hS rb hrb2)).dropc (c:=rc) 1
      go_simp
      refine (pick_any _ N N M _ co (N - 1) _ (rc - 1) cc ((List.range N).drop 1) (skipL N j) wS (hMV.below hbS) HF.out oM oM hNS hcc hdl rfl oM hsl (fun x hx=>List.mem_range.1 (List.mem_of_mem_drop hx)) (fun x hx=>skipL_lt x hx)).mono ?_
      rintro e wa ⟨v,bs,rfl,hv,hba⟩
      exact hK _ _ ((hI.world hba).y mm9 ⟨v,rfl,hv.mat.1⟩)
     ·refine StepAt.liftA kR dE ?_
      intro L T wS hL hd hcl hI K hK
      try refine step_wanted rfl ?_
      obtain ⟨z9,zt9,hz9⟩:=hI.v mm9 (hd 9)
      go_simp
      exact hK _ _ (hI.y mm10 hz9)
     ·refine StepAt.liftA kR dE ?_
      intro L T wS hL hd hcl hI K hK
      try refine step_wanted rfl ?_
      obtain ⟨z10,zt10,hz10⟩:=hI.v mm10 (hd 10)
      obtain ⟨u,rfl,hu⟩:=hz10
      go_simp
      exact hK _ _ (hI.y mm11 hu)
     ·intro L T wS hL hd hcl hI K hK
      try refine step_wanted rfl ?_
      obtain ⟨w0,hJ,-,-⟩:=id hI
      obtain ⟨z10,zt10,hz10⟩:=hJ.val _ mm10 (hd 10)
      obtain ⟨u,rfl,hu⟩:=hz10
      go_simp
      exact hK _ _ (hI.pure ⟨12,41,_⟩ mm12 rfl (fun _=>rfl) dE (fun _=>put3_set dE dE))
     ·refine StepAt.liftA kR dE ?_
      intro L T wS hL hd hcl hI K hK
      try refine step_wanted rfl ?_
      go_simp
      exact hK _ _ ((hI.world ((Below.refl _ _).alloc (Nat.le_refl _) _)).y mm13 ⟨_,rfl,hI.onl.bel.size,Blk.new _ _ _⟩)
     ·intro L T wS hL hd hcl hI K hK
      try refine step_wanted rfl ?_
      replace hI:=hI.here hL
      obtain ⟨z11,zt11,hz11⟩:=hI.v mm11 (hd 11)
      obtain ⟨z13,zt13,hz13⟩:=hI.v mm13 (hd 13)
      obtain ⟨Av,rfl,hrv⟩:=hz11
      obtain ⟨vo,vn,vc,rfl,-,-,-,-⟩:=hrv
      obtain ⟨b7,rfl,-,T7⟩:=hz13
      obtain ⟨f1,f2,f3,f4,f5,f6⟩:=T7.three
      go_simp
      exact hK _ _ (RAS.store hI hL (by repeat' (first | exact List.forall_mem_nil _ | refine List.forall_mem_cons.2 ⟨by dsimp only; decide,?_⟩)) dE (put3_at zt13 zt11).symm)
    intro T w8f hJ
    obtain ⟨w8,hI,-,hstw8⟩:=hJ
    replace hstw8:=hstw8 kR
    obtain ⟨va0,q0,rfl⟩:=hI.v mm0 rfl
    obtain ⟨va1,q1,rfl⟩:=hI.v mm1 rfl
    obtain ⟨va2,q2,ha2⟩:=hI.v mm2 rfl
    obtain ⟨va3,q3,ha3⟩:=hI.v mm3 rfl
    obtain ⟨va4,q4,rfl⟩:=hI.v mm4 rfl
    obtain ⟨va5,q5,rfl⟩:=hI.v mm5 rfl
    obtain ⟨va6,q6,rfl⟩:=hI.v mm6 rfl
    obtain ⟨va7,q7,ha7⟩:=hI.v mm7 rfl
    obtain ⟨va8,q8,ha8⟩:=hI.v mm8 rfl
    obtain ⟨va9,q9,ha9⟩:=hI.v mm9 rfl
    obtain ⟨va10,q10,ha10⟩:=hI.v mm10 rfl
    obtain ⟨va11,q11,ha11⟩:=hI.v mm11 rfl
    obtain ⟨va12,q12,rfl⟩:=hI.v mm12 rfl
    obtain ⟨va13,q13,ha13⟩:=hI.v mm13 rfl
    have hT:=tmps_set [(30,.agg #[.int .i64 N,.int .i64 N,.slice ao N cap]),(31,.slice (some ⟨rb,0,none⟩) N rc),(32,va2),(33,va3),(34,.slice (some ⟨rb,0,none⟩) N rc),(35,.int .i64 j),(36,.int .i64 (j + 1)),(37,va7),(38,va8),(39,va9),(29,va10),(40,va11),(41,.int .i64 0),(7,va13)]
     (fun j hj=>hI.keep j (by simp only [List.forall_mem_cons] at hj ⊢; simp [hj]))
     (by simp only [List.forall_mem_cons]; simp [q0,q1,q2,q3,q4,q5,q6,q7,q8,q9,q10,q11,q12,q13]) hI.size
    have how8:=hI.onl
    clear hI
    simp only [List.foldl_cons,List.foldl_nil,List.setIfInBounds_toArray,List.set_cons_zero,List.set_cons_succ,ptr] at hT
    subst hT
    clear q0 q1 q2 q3 q4 q5 q6 q7 q8 q9 q10 q11 q12 q13
    simp only [List.drop_succ_cons,List.drop_zero]
    have e1 : (skipL N j).length = n:=by rw [HN.out] at hlt ⊢; exact skipL_len hlt
    have e2 : N - 1 = n:=by rw [HN.out]; rfl
    replace ha11 : MatV w8 va11 ((N - 1 : Nat) : Int) ((skipL N j).length : Int) (genM (N - 1) (skipL N j).length (pickF M ((List.range N).drop 1) (skipL N j))):=ha11
    rw [e1,e2] at ha11
    obtain ⟨Av,rfl,hrv⟩:=id ha11
    obtain ⟨vo,vn,vc,rfl,hvl,-,-,-⟩:=id hrv
    obtain ⟨b7,rfl,hb7,T7⟩:=ha13
    have hbS:=Below.only hbw6 how8 oM (fun b hm=>by have:=(hown.own b (by simpa using hm)).1; omega)
    have hSb : ∀b,b < wr.heap.size->w8.heap[b]? = w6.heap[b]?:=fun b hb=>how8.old b oM (hS b hb)
    have bx8 : Blk w8 w.heap.size 28 #[.int .i64 N,.int .i64 N,.slice ao N cap]:=(hSb _ oM).trans bx6
    have br8 : Blk w8 (w.heap.size + 1) 45 #[.bool false,.slice none 0 0]:=(hSb _ oM).trans br6
    have z38:=z36.old (hSb b3 l3) how8.lext
    have hN8:=hN6.only how8 (hS rb hrb2)
    obtain ⟨f1,f2,f3,f4,f5,f6⟩:=T7.three
    have q7:=T7.lt
    have q8:=how8.bel.size
    clear e1 e2 ha2 ha7 ha3 ha8 ha9 ha10 hLP hLN hLB hown hgr hdl hsl hlr
    clear c1 c2 c3 c4 c5 c6
    have hw9:=hstw8.trans (put3_at rfl rfl)
    have hx9 : LExt w8 w8f:=by rw [hw9]; exact T7.lext3 dE _ _ _
    have ho9 : ∀k,k ≠ b7->w8f.heap[k]? = w8.heap[k]?:=fun k hk=>by rw [hw9]; exact set3_old _ _ _ _ _ _ hk
    have T79 : Blk w8f b7 28 #[.int .i64 n,.int .i64 n,.slice vo vn vc]:=by rw [hw9]; exact T7.put3 _ _ _
    have hm9 : MatV w8f (.agg #[.int .i64 n,.int .i64 n,.slice vo vn vc]) n n (genM n n (pickF M ((List.range N).drop 1) (skipL N j))):=by
     rw [hw9] at hx9 ⊢
     exact ha11.put3 T7 _ _ _ hx9
    have hbf : Below w.heap.size w w8f:=by
     rw [hw9]
     exact bset (bset (bset hbS oM 0 _) oM 1 _) oM 2 _
    have bx9 : Blk w8f w.heap.size 28 #[.int .i64 N,.int .i64 N,.slice ao N cap]:=(ho9 _ oM).trans bx8
    have br9 : Blk w8f (w.heap.size + 1) 45 #[.bool false,.slice none 0 0]:=(ho9 _ oM).trans br8
    have z39:=z38.old (ho9 b3 oM) hx9
    have hN9:=hN8.at_old (ho9 rb oM)
    have qrb : rb < w8f.heap.size:=by rw [hw9]; simpa using (show rb < w8.heap.size by omega)
    have s9 : w8.heap.size = w8f.heap.size:=by rw [hw9]; simp
    obtain ⟨c1,c2,c3,c4,c5,c6⟩:=bx9.three
    clear f1 f2 f3 f4 f5 f6
    obtain ⟨f1,f2,f3,f4,f5,f6⟩:=T79.three
    obtain ⟨b,ra,rn,rcc,zs,rfl,hbl1,hz,p1,hv⟩:=(h.below hbf).row (k:=0) (by rw [HX.out]; exact hpos)
    have hzl:=HF.out.2 zs (List.mem_of_getElem? hz)
    have hvl:=hv.len
    obtain rfl : N = rn:=by omega
    obtain ⟨b',z,sg,al,ll,cl,rfl,hbl',hzk,q1,q2',hzv⟩:=hv.cell (k:=j) oM
    have hent:=Lib.hid (ent_of hz hzk)
    have HZ : HidS (Smd z):=⟨by rw [<-hent.out]; exact HE.out j hlt⟩
    have HDM : HidS (Smd (det n (mnr (ent M) 0 j))):=⟨HM.out j hlt⟩
    have HDE:=Lib.hid (det_pick (M:=M) (n:=n) (k:=j) (by have:=HN.out; omega))
    have HAM : HidS (leM 1048576 n n (ent (genM n n (pickF M ((List.range N).drop 1) (skipL N j))))):=⟨pick_leM HA.out (fun x hx=>List.mem_range.1 (List.mem_of_mem_drop hx)) (fun x hx=>skipL_lt x hx) (by rw [List.length_drop,List.length_range,HN.out]; rfl) (by have:=HN.out; subst this; exact skipL_len hlt)⟩
    rw [<-HN.out] at HDE
    clear hz hzk hzl hw9 hstw8 T7 ha11 hrv hvl
    obtain ⟨D,hD⟩ : ∃D,det n (mnr (ent M) 0 j) = D:=⟨_,rfl⟩
    have HDV:=Lib.hid hD
    rw [hD] at HDM HDE
    clear hD
    have hLB:=lastsB_new 45 w8f.heap.size #[.bool false,.slice none 0 0]
    go_upto_region 9 with (fail)
    refine wp_region_headed 11 rfl (RV w8f _ [⟨0,42,fun _ v=>v = .pointer (some ⟨w.heap.size,2,none⟩)⟩,⟨1,43,fun _ v=>v = .slice (some ⟨b,0,none⟩) N cap⟩,⟨2,44,fun _ v=>v = .pointer (some ⟨b,0,none⟩)⟩,⟨3,45,fun _ v=>v = .slice (some ⟨b',0,none⟩) N rcc⟩,⟨4,46,fun _ v=>v = .int .i64 j⟩,⟨5,47,fun _ v=>v = .pointer (some ⟨b',j * 2,none⟩)⟩,⟨6,48,fun _ v=>v = .agg #[.bool sg,.slice al ll cl]⟩,⟨7,49,fun _ v=>v = .agg #[.int .i64 n,.int .i64 n,.slice vo vn vc]⟩,⟨8,50,fun w v=>IntV w v (D)⟩,⟨9,51,fun w v=>IntV w v (z * D)⟩,⟨10,9,NewB 45 w8f.heap.size #[.bool false,.slice none 0 0]⟩]) kR RV.start ?fin3 ?steps3
    case steps3=>
     refine ⟨?_,?_,?_,?_,?_,?_,?_,?_,?_,?_,?_,trivial⟩ <;> (intro L T wS hL hd hcl hI K hK; try refine step_wanted rfl ?_)
     ·have zt : T[1]? = some (.pointer (some ⟨w.heap.size,0,none⟩)):=hI.keep 1 sI
      go_simp
      exact hK _ _ (hI.y mm0 rfl)
     ·obtain ⟨_,zt0,rfl⟩:=hI.v mm0 (hd 0)
      have cc0:=hI.cell c3
      go_simp
      exact hK _ _ (hI.y mm1 rfl)
     ·obtain ⟨_,zt1,rfl⟩:=hI.v mm1 (hd 1)
      go_simp
      exact hK _ _ (hI.y mm2 rfl)
     ·obtain ⟨_,zt2,rfl⟩:=hI.v mm2 (hd 2)
      have cc0:=hI.cell p1
      go_simp
      exact hK _ _ (hI.y mm3 rfl)
     ·have zt : T[5]? = some (.int .i64 j):=hI.keep 5 sI
      go_simp
      exact hK _ _ (hI.y mm4 rfl)
     ·obtain ⟨_,zt3,rfl⟩:=hI.v mm3 (hd 3)
      obtain ⟨_,zt4,rfl⟩:=hI.v mm4 (hd 4)
      go_simp
      exact hK _ _ (hI.y mm5 rfl)
     ·obtain ⟨_,zt5,rfl⟩:=hI.v mm5 (hd 5)
      have cc0:=hI.cell q1
      have cc1:=hI.cell q2'
      go_simp
      exact hK _ _ (hI.y mm6 rfl)
     ·have zt : T[7]? = some (.pointer (some ⟨b7,0,none⟩)):=hI.keep 7 sI
      have cc0:=hI.cell f1
      have cc1:=hI.cell f2
      have cc2:=hI.cell f3
      go_simp
      exact hK _ _ (hI.y mm7 rfl)
     ·obtain ⟨_,zt7,rfl⟩:=hI.v mm7 (hd 7)
      go_simp
      refine (HDE.out ▸ ih _ _ wS (hm9.below hI.bel) (genM_fits n n _) oM HAM.out).mono ?_
      rintro e wa ⟨v,rfl,hv,hba⟩
      exact hK _ _ ((hI.world hba).y mm8 hv)
     ·obtain ⟨_,zt6,rfl⟩:=hI.v mm6 (hd 6)
      obtain ⟨v8,zt8,h8⟩:=hI.v mm8 (hd 8)
      go_simp
      refine (r1mul_any _ _ z D wS (hzv.ext (lx hI.bel)) h8 HZ.out.sm HDM.out.sm).mono ?_
      rintro e wa ⟨v,rfl,hv,hba⟩
      exact hK _ _ ((hI.world hba).y mm9 hv)
     ·go_simp
      exact hK _ _ ((hI.world ((Below.refl _ _).alloc (Nat.le_refl _) _)).y mm10 ⟨_,rfl,hI.bel.size,Blk.new _ _ _⟩)
    intro T w10 hI
    obtain ⟨vd0,q0,rfl⟩:=hI.v mm0 rfl
    obtain ⟨vd1,q1,rfl⟩:=hI.v mm1 rfl
    obtain ⟨vd2,q2,rfl⟩:=hI.v mm2 rfl
    obtain ⟨vd3,q3,rfl⟩:=hI.v mm3 rfl
    obtain ⟨vd4,q4,rfl⟩:=hI.v mm4 rfl
    obtain ⟨vd5,q5,rfl⟩:=hI.v mm5 rfl
    obtain ⟨vd6,q6,rfl⟩:=hI.v mm6 rfl
    obtain ⟨vd7,q7,rfl⟩:=hI.v mm7 rfl
    obtain ⟨vd8,q8,hd8⟩:=hI.v mm8 rfl
    replace hd8 : IntV w10 vd8 (D):=hd8
    obtain ⟨vd9,q9,hd9⟩:=hI.v mm9 rfl
    replace hd9 : IntV w10 vd9 (z * D):=hd9
    obtain ⟨vd10,q10,hd10⟩:=hI.v mm10 rfl
    have hT:=tmps_set [(42,.pointer (some ⟨w.heap.size,2,none⟩)),(43,.slice (some ⟨b,0,none⟩) N cap),(44,.pointer (some ⟨b,0,none⟩)),(45,.slice (some ⟨b',0,none⟩) N rcc),(46,.int .i64 j),(47,.pointer (some ⟨b',j * 2,none⟩)),(48,.agg #[.bool sg,.slice al ll cl]),(49,.agg #[.int .i64 n,.int .i64 n,.slice vo vn vc]),(50,vd8),(51,vd9),(9,vd10)]
     (fun j hj=>hI.keep j (by simp only [List.forall_mem_cons] at hj ⊢; simp [hj]))
     (by simp only [List.forall_mem_cons]; simp [q0,q1,q2,q3,q4,q5,q6,q7,q8,q9,q10]) hI.size
    have hbw10:=hI.bel
    clear hI
    simp only [List.foldl_cons,List.foldl_nil,List.setIfInBounds_toArray,List.set_cons_zero,List.set_cons_succ,ptr] at hT
    subst hT
    clear q0 q1 q2 q3 q4 q5 q6 q7 q8 q9 q10
    simp only [List.drop_succ_cons,List.drop_zero]
    obtain ⟨b9,rfl,hbq9,T9⟩:=hd10
    obtain ⟨pn,pa,pl,pc,px,rfl,hp'⟩:=id hd9
    have HP:=Lib.hid hp'
    clear hp' hLB c1 c2 c3 c4 c5 c6 f1 f2 f3 f4 f5 f6
    obtain ⟨t1,t2,t3,t4⟩:=T9.two
    go_upto_region 10 with (fail)
    refine wp_world ?_
    intro W11 hW11
    have z9 : BoxI W11 b9 (z * D):=by rw [hW11.out]; exact BoxI.put T9 hd9
    have z311 : BoxI W11 b3 (lap n M j):=by rw [hW11.out]; exact (z39.below hbw10).far oM T9 dE _ _
    have ho11 : ∀k,k ≠ b9->W11.heap[k]? = w10.heap[k]?:=fun k hk=>by rw [hW11.out]; exact set2_old _ _ _ _ _ _ _ hk
    have hb11 : Below w.heap.size w W11:=by rw [hW11.out]; exact bset (bset (nx hbf hbw10) oM _ _) oM _ _
    have bx11 : Blk W11 w.heap.size 28 #[.int .i64 N,.int .i64 N,.slice (some ⟨b,0,none⟩) N cap]:=(ho11 _ oM).trans (bx9.below hbw10)
    have br11 : Blk W11 (w.heap.size + 1) 45 #[.bool false,.slice none 0 0]:=(ho11 _ oM).trans (br9.below hbw10)
    have hN11:=(hN9.below hbw10).at_old (ho11 rb oM)
    have q10:=hbw10.size
    have qrb : rb < W11.heap.size:=by rw [hW11.out]; simp; omega
    have HL1 : HidS (Smd (lap n M j)):=⟨HL.out j hj⟩
    have HL2 : HidS (Smd (lap n M (j + 1))):=⟨HL.out (j + 1) hlt⟩
    have HTD : HidS (Smd (z * D)):=⟨by rw [<-hent.out,<-HDV.out]; exact small24_smd (HT.out j hlt)⟩
    clear hW11 t1 t2 t3 t4 hbl1 hbl' p1 hv q1 q2' hzv hd8 hd9 T9 z39 bx9 br9 hN9 bx8 br8 z38 hN8 ho9 hx9 T79 hm9 hSb how8 hS bx6 br6 z36 hN6 bx1 br z3 hrows
    by_cases hodd : j % 2 = 1
    ·have hm : ((j : Int) % 2 == 1) = true:=by rw [beq_iff_eq]; omega
     obtain ⟨xn,xa,xl,xc,k9,i9⟩:=z9
     obtain ⟨t1,t2,t3,t4⟩:=k9.two
     go_wp2_with fail
     refine (r1neg_any _ _ W11 i9.weak HTD.out.sm).mono ?_
     rintro e w12 ⟨u,rfl,hu,hb12⟩
     obtain ⟨gn,ga,gl,gc,gx,rfl,hu'⟩:=id hu
     have HG:=Lib.hid hu'
     clear hu' t1 t2 t3 t4
     have k9:=k9.below hb12
     obtain ⟨t1,t2,t3,t4⟩:=k9.two
     go_upto_region 12 with (fail)
     refine wp_world ?_
     intro W13 hW13
     have k9n : Blk W13 b9 45 #[.bool gn,.slice ga gl gc]:=by rw [hW13.out]; exact k9.put2 _ _
     have i9 : IntV W13 (.agg #[.bool gn,.slice ga gl gc]) (-(z * D)):=by rw [hW13.out]; exact hu.ext (k9.lext2 dE _ _)
     have ho13 : ∀k,k ≠ b9->W13.heap[k]? = w12.heap[k]?:=fun k hk=>by rw [hW13.out]; exact set2_old _ _ _ _ _ _ _ hk
     have hx13 : LExt w12 W13:=by rw [hW13.out]; exact k9.lext2 dE _ _
     have bx11:=(ho13 _ oM).trans (bx11.below hb12)
     have br11:=(ho13 _ oM).trans (br11.below hb12)
     have hN11:=(hN11.below hb12).at_old (ho13 rb oM)
     have z311:=(z311.below hb12).old (ho13 b3 oM) hx13
     have q12:=hb12.size
     have qrb : rb < W13.heap.size:=by rw [hW13.out]; simp; omega
     have hb11 : Below w.heap.size w W13:=by rw [hW13.out]; exact bset (bset (nx hb11 hb12) oM _ _) oM _ _
     have HTN : HidS (Smd (-(z * D))):=⟨HTD.out.mono (by rw [Int.natAbs_neg]; exact Nat.le_refl _)⟩
     replace bx11 : Blk W13 w.heap.size 28 #[.int .i64 N,.int .i64 N,.slice (some ⟨b,0,none⟩) N cap]:=bx11
     replace br11 : Blk W13 (w.heap.size + 1) 45 #[.bool false,.slice none 0 0]:=br11
     clear hW13 t1 t2 t3 t4 k9
     have k9:=k9n
     clear k9n
     obtain ⟨yn,ya,yl,yc,k3,i3⟩:=z311
     obtain ⟨t1,t2,t3,t4⟩:=k9.two
     obtain ⟨t5,t6,t7,t8⟩:=k3.two
     go_wp2_with fail
     refine (r1add_any _ _ (lap n M j) (-(z * D)) W13 i3 i9 HL1.out.sm HTN.out.sm).mono ?_
     rintro e w14 ⟨u,rfl,hu,hbv⟩
     obtain ⟨u1,u2,u3,u4,u5,rfl,hu'⟩:=id hu
     have HUV:=Lib.hid hu'
     clear hu' t1 t2 t3 t4 t5 t6 t7 t8
     have k3:=k3.below hbv
     obtain ⟨t1,t2,t3,t4⟩:=k3.two
     rw [<-hent.out,<-HDV.out,lap_odd hodd] at hu
     go_wp2
     go_roundw
     case rel=>exact ⟨j + 1,by omega,by simp,bset (bset (nx hb11 hbv) oM _ _) oM _ _,(set2_old _ _ _ _ _ _ _ oM).trans (bx11.below hbv),(set2_old _ _ _ _ _ _ _ oM).trans (br11.below hbv),(hN11.below hbv).at_old (set2_old _ _ _ _ _ _ _ hne3),by have:=hbv.size; simp; omega,BoxI.put k3 hu⟩
     case measure=>simp [intOf]; omega
    ·have hm : ((j : Int) % 2 == 1) = false:=by rw [beq_eq_false_iff_ne]; omega
     have hodd : j % 2 = 0:=by omega
     obtain ⟨xn,xa,xl,xc,k9,i9⟩:=z9
     have HTN:=HTD
     obtain ⟨yn,ya,yl,yc,k3,i3⟩:=z311
     obtain ⟨t1,t2,t3,t4⟩:=k9.two
     obtain ⟨t5,t6,t7,t8⟩:=k3.two
     go_wp2_with fail
     refine (r1add_any _ _ (lap n M j) (z * D) W11 i3 i9 HL1.out.sm HTN.out.sm).mono ?_
     rintro e w14 ⟨u,rfl,hu,hbv⟩
     obtain ⟨u1,u2,u3,u4,u5,rfl,hu'⟩:=id hu
     have HUV:=Lib.hid hu'
     clear hu' t1 t2 t3 t4 t5 t6 t7 t8
     have k3:=k3.below hbv
     obtain ⟨t1,t2,t3,t4⟩:=k3.two
     rw [<-hent.out,<-HDV.out,lap_even hodd] at hu
     go_wp2
     go_roundw
     case rel=>exact ⟨j + 1,by omega,by simp,bset (bset (nx hb11 hbv) oM _ _) oM _ _,(set2_old _ _ _ _ _ _ _ oM).trans (bx11.below hbv),(set2_old _ _ _ _ _ _ _ oM).trans (br11.below hbv),(hN11.below hbv).at_old (set2_old _ _ _ _ _ _ _ hne3),by have:=hbv.size; simp; omega,BoxI.put k3 hu⟩
     case measure=>simp [intOf]; omega
   ·obtain rfl : j = N:=by omega
    obtain ⟨yn,ya,yl,yc,k3,i3⟩:=z3
    obtain ⟨t5,t6,t7,t8⟩:=k3.two
    obtain ⟨r1,r2,r3,r4⟩:=br.two
    go_wp2
    refine bodyPost_int rfl rfl rfl (br.put2 _ _) (i3.ext (br.lext2 dE _ _)) (bset (bset hb oM 0 _) oM 1 _)
theorem Inv.det_dvd {n r : Nat} {A F : Nat->Nat->Int} (h : Inv n n r A F) : det n A ∣ prodN n fun i=>F i i:=by
 refine h.gen (k:=n) oM fun σ τ hσ hτ=>dvd_both_inc (R:=n) (C:=n) (F:=A) (fun σ τ hσ hτ hi hj=>?_) σ τ hσ hτ
 have idn : ∀σ : Nat->Nat,(∀a,a < n->σ a < n)->Inc n σ->∀a,a < n->σ a = a:=fun σ hσ hi a ha=>by
  have h1:=hi.le a ha
  have h2 : ∀j,a + j < n->σ a + j<=σ (a + j):=fun j=>by
   induction j with
   | zero=>intro _; exact Nat.le_refl _
   | succ j ih=>
    intro hj
    have h3:=hi (a + j) oM
    have h4:=ih oM
    have h5 : a + (j + 1) = a + j + 1:=rfl
    rw [h5]
    omega
  have h3:=h2 (n - 1 - a) oM
  have h4:=hσ (a + (n - 1 - a)) oM
  omega
 have he : det n (fun a b=>A (σ a) (τ b)) = det n A:=det_congr fun a ha b hb=>by rw [idn σ hσ hi a ha,idn τ hτ hj b hb]
 rw [he]
 exact Int.dvd_refl _
theorem Inv.dvd_det {n r : Nat} {A F : Nat->Nat->Int} (h : Inv n n r A F) : (prodN n fun i=>F i i) ∣ det n A:=
 h.minors (k:=n) oM (fun a=>a) (fun a=>a) (fun a ha=>ha) (fun a ha=>ha)
theorem Inv.det_full {n : Nat} {A F : Nat->Nat->Int} (h : Inv n n n A F) : (prodN n fun i=>F i i) = ((det n A).natAbs : Int)/\det n A ≠ 0:=by
 have h1 : 0 < prodN n fun i=>F i i:=prodN_pos fun i hi=>h.dg.pos i hi
 have h2:=Int.natAbs_dvd_natAbs.2 h.det_dvd
 have h3:=Int.natAbs_dvd_natAbs.2 h.dvd_det
 have h4:=Nat.dvd_antisymm h2 h3
 constructor
 ·omega
 ·intro h0
  rw [h0] at h4
  simp at h4
  omega
theorem Inv.det_zero {n r : Nat} {A F : Nat->Nat->Int} (h : Inv n n r A F) (hr : r < n) : det n A = 0:=by
 have h1 : (prodN n fun i=>F i i) = 0:=prodN_zero hr (h.dg.zero r (Nat.le_refl _) oM)
 have h2:=h.dvd_det
 rw [h1] at h2
 exact Int.zero_dvd.1 h2

def addC (F : Nat->Nat->Int) (i j : Nat) (k : Int) : Nat->Nat->Int:=fun a b=>if b = i then F a i + k * F a j else F a b
def addFu (F : Nat->Nat->Int) (i j : Nat) (k : Int) (c : Nat) : Nat->Nat->Int:=fun a b=>if a = i/\b < c then F i b + k * F j b else F a b
def addCu (F : Nat->Nat->Int) (i j : Nat) (k : Int) (c : Nat) : Nat->Nat->Int:=fun a b=>if b = i/\a < c then F a i + k * F a j else F a b
end Go.Proofs.YtnocgagoaldfnaaGreat
