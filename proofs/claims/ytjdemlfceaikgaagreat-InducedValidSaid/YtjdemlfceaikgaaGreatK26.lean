/- induced.Apply. induced.build: a chain map made by a function. induced.Inclusion. A cell of another block. induced.Compose. chains.Boundary, Vector. induced.equal: two valid chains are the same. induced.Valid. chains.Vector. induced.Matrix. induced.Compose. What the program wants of small concrete complexes and maps, by reckoning; torsionlaw29.degree. -/
import Derived.Test.YtjdemlfceaikgaaGreatK09
import Derived.Test.YtjdemlfceaikgaaGreatK17
import Derived.Test.YtjdemlfceaikgaaGreatK23
import Derived.Test.YtjdemlfceaikgaaGreatK24
import Derived.Test.YtjdemlfceaikgaaGreatK25
set_option linter.unusedVariables false
set_option linter.unusedSimpArgs false
set_option linter.unusedSectionVars false
namespace Go.Proofs.YtjdemlfceaikgaaGreat
open Go.RowKit Go.Maps
structure MpOk (m : Mp) : Prop where
 srt : m.Pairwise fun a b=>a.1 < b.1
 ids : ∀f ∈ m,I64 f.1
 img : ∀f ∈ m,∀g ∈ f.2,I64 g.1
 len : m.length<=1000000
theorem below_box {w w1 w2 : World} {b : Nat} (hb : w.heap.size<=b) (h1 : Below w.heap.size w w1) (h2 : w1.grownBy w2 (some b)) : Below w.heap.size w w2:=
 h1.grown h2 h1.size (fun g hg=>by cases hg; exact hb)
set_option maxHeartbeats 16000000 in
set_option maxRecDepth 20000 in
theorem iapply_any (v u : Value) (m : Mp) (x : Ch) (w : World) (hm : MapV w v m) (hx : ChnV w u x) (hM : MpOk m) (hix : ∀f ∈ x,I64 f.1) (hA : ActOk (imgM m) x) (hl9 : lenA (imgM m) x<=900000) :
  Calls Tryz.prog 17 #[v,u] w fun e w'=>∃r,e = .returned r/\ApT m x w' r/\Below w.heap.size w w':=by
 obtain ⟨ao,ac,rfl,-,-⟩:=id hm.shape
 obtain ⟨bo,bc,rfl,-,-⟩:=id hx.shape
 obtain ⟨mm,hmm⟩ : ∃n,m.length = n:=⟨_,rfl⟩
 obtain ⟨n,hxn⟩ : ∃n,x.length = n:=⟨_,rfl⟩
 rw [hmm] at hm ⊢
 rw [hxn] at hx ⊢
 obtain ⟨W1,hW1⟩ : ∃W1,w.alloc (.cells #[.slice ao mm ac,.int .u32 0,.int .i32 0,.int .u32 0,.map none] tImgs) = W1:=⟨_,rfl⟩
 have hN1 : ImgN W1 w.heap.size ao mm ac:=by rw [<-hW1]; exact Blk.new _ _ _
 have hB1 : Below w.heap.size w W1:=by rw [<-hW1]; exact (Below.refl _ _).alloc (Nat.le_refl _) _
 have HA:=HidS.mk (imgapply_any w.heap.size ao mm ac m _ x w W1 (.inl hN1) hm (TE.below hB1 (Nat.le_refl _)) hM.srt hM.ids hM.img hM.len (hx.below hB1) hix hA hl9)
 clear hm hx hN1
 go_enter_defers Tryz.func17,Tryz.ntmps17
 go_wp2_with fail
 refine HA.out.mono ?_
 rintro e w6 ⟨_,rfl,⟨o,n',c',rfl,hch⟩,hD6,hg6⟩
 have HCH:=HidS.mk hch
 clear hch
 go_wp2
 refine leaves_cons (f:=60) (args:=#[]) sI (by simp [go_sem]) ?_
 refine (idle_ia _).mono ?_
 rintro e u' w'' ⟨rfl,rfl,rfl⟩
 refine ⟨_,results_tmp2 rfl _ _ _,_,rfl,?_,below_box (Nat.le_refl _) hB1 hg6⟩
 exact ⟨_,_,_,rfl,HCH.out⟩
def bldM (G : Nat->Int × Ch) (n : Nat) : Mp:=(List.range n).map G
def bldE (E : Nat->Int) : Nat->Int
 | 0=>0
 | n + 1=>if bldE E n = 0 then E n else bldE E n
theorem bldM_len (G : Nat->Int × Ch) (n : Nat) : (bldM G n).length = n:=by unfold bldM; simp
theorem bldM_sn (G : Nat->Int × Ch) (n : Nat) : bldM G (n + 1) = bldM G n ++ [G n]:=by unfold bldM; rw [List.range_succ,List.map_append]; rfl
theorem bldE_stop {E : Nat->Int} {i : Nat} (h : bldE E (i + 1) ≠ 0) : ∀{n : Nat},i < n->bldE E n = bldE E (i + 1):=by
 intro n
 induction n with
 | zero=>intro h1; omega
 | succ n ih=>
  intro h1
  rcases Nat.lt_or_ge i n with h2 | h2
  ·have h3:=ih h2
   show (if bldE E n = 0 then E n else bldE E n) = _
   rw [if_neg (by rw [h3]; exact h),h3]
  ·have : n = i:=by omega
   rw [this]
structure CbI (base : Nat) (I : World->Prop) : Prop where
 own : ∀{w w' : World} {v : Value} {xs : Mp},I w->MapO w base v xs->w.grownBy w' v.ownBlock->I w'
 bel : ∀{w w' : World},I w->Below w.heap.size w w'->I w'
 siz : ∀{w : World},I w->base<=w.heap.size
def BldT (G : Nat->Int × Ch) (E : Nat->Int) (n base : Nat) (w : World) (v : Value) : Prop:=∃o k q,v = .tuple #[.slice o k q,.int .i64 (bldE E n)]/\MapO w base (.slice o k q) (if bldE E n = 0 then bldM G n else [])
set_option maxHeartbeats 16000000 in
set_option maxRecDepth 20000 in
theorem build_any (fn : Nat) (cps : Array Value) (n base : Nat) (G : Nat->Int × Ch) (E : Nat->Int) (I : World->Prop) (w : World) (hfn : ∀(args : Array Value) (w : World),(callFunc fn args).run Tryz.prog w = .ok (.enter fn args) w) (hw : I w) (hI : CbI base I) (hn : n<=1000000)
  (hc : ∀i < n,∀wr,I wr->Calls Tryz.prog fn (#[.int .i64 i] ++ cps) wr fun e w'=>∃o k q,e = .returned (.tuple #[.int .i64 (G i).1,.slice o k q,.int .i64 (E i)])/\ChnV w' (.slice o k q) (G i).2/\I w'/\TE (imgE.T :: imgE.ts) wr w'/\wr.heap.size<=w'.heap.size) :
  Calls Tryz.prog 48 #[.int .i64 n,.func (.func fn) #[] cps] w fun e w'=>∃r,e = .returned r/\BldT G E n base w' r/\I w':=by
 have HC:=HidS.mk hc
 have HII:=HidS.mk hI
 have HW:=HidS.mk hw
 have hO : HidS (MapO w base (.slice none 0 0) (bldM G 0)/\bldE E 0 = 0/\I w):=⟨LsO.nil _ _ _,rfl,hw⟩
 clear hc hI hw
 go_enter Tryz.func48,Tryz.ntmps48
 go_wp2
 go_loopw [6,7,8,9,10,12] (fun u _ _ _ _ iv wr=>∃i : Nat,i<=n/\iv = .int .i64 i/\HidS (MapO wr base u (bldM G i)/\bldE E i = 0/\I wr)) (fun _ _ _ _ _ iv _=>n - (intOf iv).toNat)
 case atStart=>exact ⟨0,by omega,rfl,hO⟩
 case round=>
  clear hO
  obtain ⟨i,hi,rfl,hO⟩:=hrel
  obtain ⟨uo,uc,rfl⟩:=LsO.shape hO.out.1
  have hlm:=bldM_len G i
  rw [hlm] at hO ⊢
  have HLM:=HidS.mk hlm
  clear hlm
  by_cases hlt : i < n
  ·go_wp2_with fail
   refine (HC.out i hlt wr hO.out.2.2).mono ?_
   rintro e w5 ⟨o,k,q,rfl,hch,hI5,hte,hsz⟩
   have HCH:=HidS.mk hch
   have HI5:=HidS.mk hI5
   have HO5:=HidS.mk (LsO.te hO.out.1 hte)
   obtain ⟨ge,hge⟩ : ∃e,E i = e:=⟨_,rfl⟩
   obtain ⟨gi,gx,hgg⟩ : ∃a b,G i = (a,b):=⟨_,_,rfl⟩
   rw [hge,hgg]
   rw [hgg] at HCH
   simp only at HCH ⊢
   have hE1 : HidS (bldE E (i + 1) = ge):=⟨by
    show (if bldE E i = 0 then E i else bldE E i) = _
    rw [if_pos hO.out.2.1,hge]⟩
   have HGG:=HidS.mk hgg
   clear hch hI5 hte hO hge hgg
   by_cases h0 : ge = 0
   ·subst h0
    have hal:=(Below.refl w5.heap.size w5).alloc (Nat.le_refl _) (.cells #[.int .i64 gi,.slice o k q] tIm)
    have HN:=HidS.mk (LsO.lits (e:=imgE) (base:=0) (Blk.new w5 tIm #[.int .i64 gi,.slice o k q]) (Nat.zero_le _) [([.int .i64 gi,.slice o k q],(gi,gx))] rfl (List.forall_mem_cons.2 ⟨imgEE (f:=(gi,gx)) (LsV.below HCH.out hal),fun _ h=>by cases h⟩) sI).vs
    have HO6:=HidS.mk (LsO.below HO5.out hal)
    have HI6:=HidS.mk (HII.out.bel HI5.out hal)
    have hsz6:=HII.out.siz HI6.out
    clear hal
    go_wp2_with (at_builtin; go_loud (refine appIm rfl _ _ rfl base _ (bldM G i) rfl HO6.out _ [(gi,gx)] rfl HN.out (by rw [HLM.out]; show i + 1<=_; omega) hsz6 ?_; intro v9 w9 hown9 hgr9 hte9))
    have hR9 : HidS (MapO w9 base v9 (bldM G (i + 1))/\bldE E (i + 1) = 0/\I w9):=⟨by rw [bldM_sn,HGG.out]; exact hown9,hE1.out,HII.out.own HI6.out HO6.out hgr9⟩
    clear hown9 hgr9 hte9
    go_roundw
    case rel=>exact ⟨i + 1,by omega,by simp,hR9⟩
    case measure=>simp [intOf]; omega
   ·have hE2 : HidS (bldE E n = ge):=⟨by rw [bldE_stop (i:=i) (by rw [hE1.out]; exact h0) hlt,hE1.out]⟩
    go_wp2
    go_ret2
    exact ⟨_,rfl,⟨none,0,0,by rw [hE2.out] <;> rfl,by rw [if_neg (by rw [hE2.out]; exact h0)]; exact LsO.nil _ _ _⟩,HI5.out⟩
  ·obtain rfl : n = i:=by omega
   have HE:=HidS.mk hO.out.2.1
   go_wp2
   go_ret2
   refine ⟨_,rfl,⟨uo,n,uc,?_,?_⟩,hO.out.2.2⟩
   ·rw [HE.out] <;> rfl
   ·rw [if_pos HE.out]; exact hO.out.1
set_option maxHeartbeats 16000000 in
set_option maxRecDepth 20000 in
theorem incl2_any (pb : Nat) (ao : Option Addr) (n ac : Nat) (c : Cx) (i : Nat) (f : Cel) (hf : c[i]? = some f) (w : World) (hp : w.cell? ⟨pb,0,none⟩ = some (.slice ao n ac)) (hc : CpxV w (.slice ao n ac) c) :
  Calls Tryz.prog 49 #[.int .i64 i,.pointer (some ⟨pb,0,none⟩)] w fun e w'=>∃o k q,e = .returned (.tuple #[.int .i64 f.1,.slice o k q,.int .i64 0])/\ChnV w' (.slice o k q) [(f.1,1)]/\Below w.heap.size w w':=by
 obtain ⟨b',o2,q2,rfl,hb,f1,f2,f3,hv⟩:=hc.cel hf
 have hl:=hc.len
 have hin : i < n:=by rw [hl.1]; exact (List.getElem?_eq_some_iff.1 hf).1
 clear hv hc hf
 go_enter Tryz.func49,Tryz.ntmps49
 go_wp2_with fail
 refine (of_any 1 w dE dE).mono ?_
 rintro e w1 ⟨v1,rfl,hv1,hb1⟩
 obtain ⟨s6,a6,l6,k6,_,rfl,-⟩:=id hv1
 have hal:=(Below.refl w1.heap.size w1).alloc (Nat.le_refl _) (.cells #[.int .i64 f.1,.bool s6,.slice a6 l6 k6] tFc)
 have HN:=HidS.mk (ChnV.one (Blk.new w1 tFc #[.int .i64 f.1,.bool s6,.slice a6 l6 k6]) (IntV.ext hv1 (lx hal)))
 have hBB:=nx hb1 hal
 clear hv1 hal
 go_wp2
 go_ret3
 exact ⟨_,_,_,rfl,HN.out,hBB⟩
theorem incM_bld (c : Cx) : bldM (fun i=>((c.getD i (0,0,[])).1,[((c.getD i (0,0,[])).1,1)])) c.length = incM c:=by
 unfold bldM incM
 refine List.ext_getElem? fun i=>?_
 rw [List.getElem?_map,List.getElem?_map]
 rcases Nat.lt_or_ge i c.length with h | h
 ·rw [List.getElem?_range h,List.getElem?_eq_getElem h]
  simp [List.getD_eq_getElem?_getD,List.getElem?_eq_getElem h]
 ·rw [List.getElem?_eq_none (by simpa using h),List.getElem?_eq_none h]
  rfl
theorem bldE_zero {n : Nat} : bldE (fun _=>0) n = 0:=by
 induction n with
 | zero=>rfl
 | succ n ih=>unfold bldE; rw [if_pos ih]
set_option maxHeartbeats 16000000 in
set_option maxRecDepth 20000 in
theorem iincl_any (v : Value) (c : Cx) (w : World) (h : CpxV w v c) (hn : c.length<=1000000) :
  Calls Tryz.prog 12 #[v] w fun e w'=>∃u,e = .returned u/\MapV w' u (incM c)/\Below w.heap.size w w':=by
 obtain ⟨ao,ac,rfl,-,-⟩:=id h.shape
 obtain ⟨n,hxn⟩ : ∃n,c.length = n:=⟨_,rfl⟩
 rw [hxn] at h hn ⊢
 have hmf : ∀(fn : Fn) (first cap : Array Value) (w : World),(Instr.makeFunc fn first cap).run Tryz.prog w = .ok (.func fn first cap) w:=fun _ _ _ _=>rfl
 obtain ⟨W1,hW1⟩ : ∃W1,w.alloc (.cells #[.slice ao n ac] 31) = W1:=⟨_,rfl⟩
 have hB1 : Below w.heap.size w W1:=by rw [<-hW1]; exact (Below.refl _ _).alloc (Nat.le_refl _) _
 have T1 : Blk W1 w.heap.size 31 #[.slice ao n ac]:=by rw [<-hW1]; exact Blk.new _ _ _
 have hs1 : w.heap.size < W1.heap.size:=T1.lt
 have H1:=HidS.mk (h.below hB1)
 have c0:=T1.cell 0
 simp at c0
 have HC0:=HidS.mk c0
 have HBL:=HidS.mk (build_any 49 #[.pointer (some ⟨w.heap.size,0,none⟩)] n W1.heap.size (fun i=>((c.getD i (0,0,[])).1,[((c.getD i (0,0,[])).1,1)])) (fun _=>0) (fun wr=>Below W1.heap.size W1 wr) W1 (fun args w=>rfl) (Below.refl _ _) ⟨fun {_ _ _ _} h1 h2 h3=>h1.grown h3 h1.size (fun g hg=>(h2.own g hg).1),fun {_ _} h1 h2=>nx h1 h2,fun {_} h1=>h1.size⟩ hn (fun i hi wr hwr=>by
  obtain ⟨f,hf⟩ : ∃f,c[i]? = some f:=⟨_,List.getElem?_eq_getElem (by rw [hxn]; exact hi)⟩
  have hg : c.getD i (0,0,[]) = f:=by rw [List.getD_eq_getElem?_getD,hf]; rfl
  refine (incl2_any w.heap.size ao n ac c i f hf wr ((hwr.cell (p:=⟨w.heap.size,0,none⟩) hs1).trans HC0.out) (H1.out.below hwr)).mono ?_
  rintro e w' ⟨o,k,q,rfl,h1,h2⟩
  simp only [hg]
  exact ⟨o,k,q,rfl,h1,nx hwr h2,TE.below h2 (Nat.le_refl _),h2.size⟩))
 have HXN:=HidS.mk hxn
 have hcs:=T1.cell 0
 simp at hcs
 clear h hxn
 go_enter_defers Tryz.func12,Tryz.ntmps12
 go_wp2_with fail
 refine HBL.out.mono ?_
 rintro e w6 ⟨_,rfl,⟨o,n',c',rfl,hch⟩,hB6⟩
 rw [bldE_zero,if_pos rfl] at hch
 have HCH:=HidS.mk hch
 clear hch
 go_wp2
 refine leaves_cons (f:=47) (args:=#[]) sI (by simp [go_sem]) ?_
 refine (idle_ii _).mono ?_
 rintro e u' w'' ⟨rfl,rfl,rfl⟩
 refine ⟨_,results_tmp rfl _ _ _,_,rfl,?_,hB1.trans (hB6.mono hB1.size)⟩
 have:=HCH.out.vs
 rw [<-HXN.out,incM_bld] at this
 exact this
theorem grown_cell {w w' : World} {b p : Nat} (hg : w.grownBy w' (some b)) (hp : p < w.heap.size) (hne : p ≠ b) : w'.cell? ⟨p,0,none⟩ = w.cell? ⟨p,0,none⟩:=by
 have:=hg.block p hp (fun e=>hne (by cases e; rfl))
 unfold World.cell?
 simp only
 rw [this]
set_option maxHeartbeats 16000000 in
set_option maxRecDepth 20000 in
theorem comp2_any (p6 p2 b : Nat) (ao : Option Addr) (n ac : Nat) (m : Mp) (mo : Option Addr) (nm mc : Nat) (y : Mp) (i : Nat) (f : Int × Ch) (hf : m[i]? = some f) (wm w : World)
  (hp6 : w.cell? ⟨p6,0,none⟩ = some (.pointer (some ⟨b,0,none⟩))) (hp2 : w.cell? ⟨p2,0,none⟩ = some (.slice ao n ac)) (h2b : p2 ≠ b) (h2l : p2 < w.heap.size) (hm : MapV w (.slice ao n ac) m)
  (h : ImgS wm w b mo nm mc y) (hy : MapV wm (.slice mo nm mc) y) (hT : TE (imgE.T :: imgE.ts) wm w) (hM : MpOk y) (hix : ∀g ∈ f.2,I64 g.1) (hA : ActOk (imgM y) f.2) (hl9 : lenA (imgM y) f.2<=900000) :
  Calls Tryz.prog 69 #[.int .i64 i,.pointer (some ⟨p6,0,none⟩),.pointer (some ⟨p2,0,none⟩)] w fun e w'=>∃o k q,e = .returned (.tuple #[.int .i64 f.1,.slice o k q,.int .i64 (apE y f.2)])/\ChnV w' (.slice o k q) (apC y f.2)/\ImgS wm w' b mo nm mc y/\w.grownBy w' (some b):=by
 obtain ⟨b',o2,q2,rfl,hb,f1,f2,hv⟩:=hm.img hf
 have hl:=hm.len
 have hin : i < n:=by rw [hl.1]; exact (List.getElem?_eq_some_iff.1 hf).1
 have hl2:=hl.2
 clear hl
 have HV:=HidS.mk hv
 have HF:=HidS.mk hf
 have HM:=HidS.mk hm
 have H:=HidS.mk h
 have HAP:=HidS.mk (fun (W : World) (hB : Below w.heap.size w W)=>imgapply_any b mo nm mc y (.slice o2 f.2.length q2) f.2 wm W (h.below hB) hy (hT.trans (TE.below hB (Nat.le_refl _))) hM.srt hM.ids hM.img hM.len (hv.below hB) hix hA hl9)
 clear hv hm hf h hy hT hM hix hA hl9
 go_enter Tryz.func69,Tryz.ntmps69
 go_upto_region 1 with (fail)
 refine wp_serHA 6 [] ?_
 refine sRd ?_
 refine sRf ?_
 intro w5 hb5
 have hp25 : w5.cell? ⟨p2,0,none⟩ = some (.slice (some ⟨b',0,none⟩) n ac):=(hb5.cell (p:=⟨p2,0,none⟩) h2l).trans hp2
 clear hp6 f1 f2
 change wpAny _ _ _ _ 6 _ _ _
 refine wpAny_ready (rs:=[6]) kR sI ?_
 refine AllReady.cons rfl (fun K hK=>?_) AllReady.nil
 go_simp
 refine (HAP.out w5 hb5).mono ?_
 rintro e w6 ⟨_,rfl,⟨o,n',c',rfl,hch⟩,hI6,hg6⟩
 refine hK _ _ ?_
 clear hK K
 refine wpAny_take (i:=7) (v:=?_) rfl kR kR kR (fun _ _ _ h=>h) (Or.inl ⟨by rfl,?_⟩) ?_
 rotate_left
 ·(intro w; go_simp; try with_reducible rfl)
 refine wpAny_take (i:=8) (v:=?_) rfl kR kR kR (fun _ _ _ h=>h) (Or.inl ⟨by rfl,?_⟩) ?_
 rotate_left
 ·(intro w; go_simp; try with_reducible rfl)
 refine wpAny_take (i:=9) (v:=?_) rfl kR kR kR (fun _ _ _ h=>h) (Or.inl ⟨by rfl,?_⟩) ?_
 rotate_left
 ·(intro w; go_simp; try with_reducible rfl)
 refine wpAny_take (i:=10) (v:=?_) rfl kR kR kR (fun _ _ _ h=>h) (Or.inl ⟨by rfl,?_⟩) ?_
 rotate_left
 ·(intro w; go_simp; try with_reducible rfl)
 refine wpAny_take (i:=11) (v:=?_) rfl kR kR kR (fun _ _ _ h=>h) (Or.inl ⟨by rfl,?_⟩) ?_
 rotate_left
 ·(intro w; go_simp; try with_reducible rfl)
 refine wpAny_done kR ?_ _
 have HCH:=HidS.mk hch
 have HI6:=HidS.mk hI6
 have hp26:=(grown_cell hg6 (by have:=hb5.size; omega) h2b).trans hp25
 have HS5:=HidS.mk (H.out.below hb5)
 obtain ⟨b1,o3,q3,e3,hb3,g1,g2,hv3⟩:=((HM.out.below hb5).te (HS5.out.te hg6 dE)).img HF.out
 cases e3
 have HG6:=HidS.mk ((grown_of_below hb5 (some b)).trans hg6)
 clear hch hI6 hg6 hp2 hp25 hv3
 go_wp2
 go_ret3
 exact ⟨_,_,_,rfl,HCH.out,HI6.out,HG6.out⟩
theorem mak_facts {L : Ch} (hi : ∀f ∈ L,I64 f.1) (hS : SmN (nrm L)) (hl : L.length<=1000000) : ValC (makC L)/\(∀f ∈ makC L,I64 f.1)/\(∀f ∈ makC L,Sm f.2)/\(makC L).length<=1000000:=by
 refine ⟨ValC.mak _,fun f hf=>?_,fun f hf=>?_,?_⟩
 ·rcases makC_mem hf with ⟨g,h1,-⟩ | ⟨g,h1,h2⟩
  ·cases h1
  ·rw [<-h2]; exact hi g h1
 ·refine hS.sm ?_
  have h1:=nrm_le hf
  have h2:=nrm_mak_from (l:=L) (a:=[])
  simp only [nrm] at h2
  unfold makC at h1
  omega
 ·have:=mak_len (l:=L) (a:=[])
  simp only [List.length_nil] at this
  unfold makC
  omega
theorem acc_sm {F : Int->Ch} {x : Ch} {i : Nat} {f : Int × Int} (hA : ActOk F x) (hf : x[i]? = some f) (j : Nat) (k : Int) : Sm (coef ((preC F (x.take i) ++ preL f.2 ((F f.1).take j)).foldl insC []) k):=by
 refine hA.sm.sm ?_
 have h1:=coef_nrm k (x:=(preC F (x.take i) ++ preL f.2 ((F f.1).take j)).foldl insC [])
 have h2:=nrm_mak_from (l:=preC F (x.take i) ++ preL f.2 ((F f.1).take j)) (a:=[])
 have h3:=(nrmA_split (F:=F) hf).1
 have h4:=nrm_take (b:=F f.1) (i:=j)
 rw [nrm_app,pre_nrm,nrm_preL] at h2
 simp only [nrm] at h2
 have h5:=Nat.mul_le_mul_left f.2.natAbs h4
 omega
theorem pro_sm {F : Int->Ch} {x : Ch} {f g : Int × Int} (hA : ActOk F x) (hf : f ∈ x) (hg : g ∈ F f.1) : Sm (f.2 * g.2)/\Sm f.2/\Sm g.2:=by
 obtain ⟨i,hi,rfl⟩:=List.getElem_of_mem hf
 have h3:=(nrmA_split (F:=F) (List.getElem?_eq_getElem hi)).1
 have h4:=nrm_le hg
 have h5:=Nat.mul_le_mul_left (x[i]).2.natAbs h4
 have h6:=hA.cf _ (List.getElem_mem hi)
 refine ⟨hA.sm.sm ?_,h6.1.sm (Nat.le_refl _),h6.2.sm h4⟩
 rw [Int.natAbs_mul]
 omega
theorem fold_sn (L : Ch) (p : Int × Int) : (L ++ [p]).foldl insC [] = insC (L.foldl insC []) p:=by rw [List.foldl_append]; rfl
theorem preL_sn {k : Int} {y : Ch} {j : Nat} {g : Int × Int} (h : y[j]? = some g) : preL k (y.take (j + 1)) = preL k (y.take j) ++ [(g.1,k * g.2)]:=by
 unfold preL
 rw [take_sn h,List.map_append]
 rfl
set_option maxHeartbeats 16000000 in
set_option maxRecDepth 20000 in
theorem chbd_any (v u : Value) (c : Cx) (x : Ch) (w : World) (h : CpxV w v c) (hx : ChnV w u x) (hs : c.Pairwise fun a b=>a.1 < b.1) (hI : ∀f ∈ c,I64 f.1) (hJ : ∀f ∈ x,I64 f.1) (hn : c.length<=1000000) (hl : x.length<=1000000)
  (hK : ∀i,∀g ∈ bOf c i,I64 g.1) (hA : ActOk (bOf c) x) (hl9 : lenA (bOf c) x<=900000) :
  Calls Tryz.prog 44 #[v,u] w fun e w'=>∃r,e = .returned r/\BdT c x w' r/\Below w.heap.size w w':=by
 have HC:=HidS.mk (cellsof_any v u c x w h hx hs hI hJ hn hl)
 obtain ⟨ao,ac,rfl,-,-⟩:=id h.shape
 obtain ⟨bo,bc,rfl,-,-⟩:=id hx.shape
 obtain ⟨n,hxn⟩ : ∃n,x.length = n:=⟨_,rfl⟩
 have hn9 : n<=1000000:=by omega
 rw [hxn] at hx hl HC ⊢
 obtain ⟨d1,d2,hd⟩ : ∃d1 d2,dimC c x = (d1,d2):=⟨_,_,rfl⟩
 unfold CofT at HC
 unfold BdT edC
 rw [hd] at HC ⊢
 obtain ⟨L,hL⟩ : ∃L,(if (d1,d2).2 = 0 then bdC c x else []) = L:=⟨_,rfl⟩
 rw [hL]
 have HLL:=HidS.mk (show (if d2 = 0 then bdC c x else []) = L from hL)
 clear hL
 have HX:=HidS.mk hx
 have HXN:=HidS.mk hxn
 have HK:=HidS.mk hK
 have HA:=HidS.mk hA
 have HL9:=HidS.mk hl9
 clear h hx hs hI hJ hn hl hd hxn hK hA hl9
 have hmm:=@run_makeMap Tryz.prog
 go_enter_defers Tryz.func44,Tryz.ntmps44
 go_wp2_with fail
 refine HC.out.mono ?_
 rintro e w2 ⟨_,rfl,⟨o,k,q,rfl,hLC⟩,hb2⟩
 by_cases h0 : d2 = 0
 ·subst h0
  rw [if_pos rfl] at hLC
  have hk:=hLC.len
  rw [lisC_len,HXN.out] at hk
  obtain rfl : k = n:=hk.1
  have HLC:=HidS.mk hLC
  have HX2:=HidS.mk (HX.out.below hb2)
  have hO : HidS (SumV (w2.alloc (.map #[] 0)) w2.heap.size (preC (bOf c) (x.take 0)).length ((preC (bOf c) (x.take 0)).foldl insC [])):=⟨SumV.made w2⟩
  have hal:=(Below.refl w2.heap.size w2).alloc (Nat.le_refl _) (.map #[] 0)
  clear hLC hk HC HX
  go_wp2
  go_loopw [10,27] (fun _ iv wr=>∃i : Nat,i<=k/\iv = .int .i64 i/\HidS (SumV wr w2.heap.size (preC (bOf c) (x.take i)).length ((preC (bOf c) (x.take i)).foldl insC []))/\Below w2.heap.size w2 wr) (fun _ iv _=>k - (intOf iv).toNat)
  case atStart=>exact ⟨0,by omega,rfl,hO,hal⟩
  case round=>
   clear hO hal
   obtain ⟨i,hi,rfl,hO,hB⟩:=hrel
   by_cases hlt : i < k
   ·obtain ⟨f,hf⟩:=lt_get HXN.out hlt
    obtain ⟨b4,o4,q4,rfl,hb4,g1,g2,g3,hv4⟩:=HLC.out.cel (lisC_get (c:=c) hf)
    have g1:=(hB.cell (p:=⟨b4,_,none⟩) hb4).trans g1
    have g2:=(hB.cell (p:=⟨b4,_,none⟩) hb4).trans g2
    have g3:=(hB.cell (p:=⟨b4,_,none⟩) hb4).trans g3
    rw [bOf_celD] at hv4 g3
    obtain ⟨ny,hny⟩ : ∃n,(bOf c f.1).length = n:=⟨_,rfl⟩
    obtain ⟨r,hr⟩ : ∃n,(preC (bOf c) (x.take i)).length = n:=⟨_,rfl⟩
    have hrn : r + ny<=900000:=by
     have h1:=(nrmA_split (F:=bOf c) hf).2
     rw [<-pre_len,hr,hny] at h1
     exact Nat.le_trans h1 HL9.out
    rw [hr] at hO
    rw [hny] at hv4 g3
    obtain ⟨e1,he1⟩ : ∃q,(celD c f.1).1 = q:=⟨_,rfl⟩
    obtain ⟨e2,he2⟩ : ∃q,(celD c f.1).2.1 = q:=⟨_,rfl⟩
    rw [he1] at g1
    rw [he2] at g2
    have HF:=HidS.mk hf
    have HNY:=HidS.mk hny
    have HR:=HidS.mk hr
    have hV4:=HidS.mk hv4
    clear hf hny hr he1 he2 hv4
    go_upto_region 9 with (fail)
    refine wp_world ?_
    intro W5 hW5
    obtain ⟨hB5,T3,hs5⟩:=world1 hW5
    obtain ⟨c1,c2,c3,c4,c5,c6⟩:=T3.three
    have hB5':=nx hB hB5
    have hst : HidS (SumV W5 w2.heap.size (r + 0) ((preC (bOf c) (x.take i) ++ preL f.2 ((bOf c f.1).take 0)).foldl insC [])):=⟨by
     rw [List.take_zero,show preL f.2 [] = [] from rfl,List.append_nil]; exact hO.out.below hB5⟩
    clear hW5 g1 g2 g3 T3 hO
    obtain ⟨w1,rfl⟩ : ∃x,x = wr:=⟨_,rfl⟩
    go_wp2
    go_loopw [35] (fun jv wq=>∃j : Nat,j<=ny/\jv = .int .i64 j/\HidS (SumV wq w2.heap.size (r + j) ((preC (bOf c) (x.take i) ++ preL f.2 ((bOf c f.1).take j)).foldl insC []))/\Below w2.heap.size w2 wq) (fun jv _=>ny - (intOf jv).toNat)
    case atStart=>exact ⟨0,by omega,rfl,hst,hB5'⟩
    case round=>
     clear hst c1 c2 c3 c4 c5 c6
     obtain ⟨j,hj,rfl,hR,hBr⟩:=hrel
     by_cases hjl : j < ny
     ·obtain ⟨g,hg⟩:=lt_get HNY.out hjl
      obtain ⟨bj,s3,a3,l3,k3,rfl,hbj,g1,g2,g3,hv3⟩:=(hV4.out.below hBr).face hg
      have HGF:=HidS.mk hg
      have HV3:=HidS.mk hv3
      have HPS:=HidS.mk (pro_sm HA.out (List.mem_of_getElem? HF.out) (List.mem_of_getElem? hg))
      have HAS:=HidS.mk (acc_sm HA.out HF.out j g.1)
      have HIG:=HidS.mk (HK.out _ g (List.mem_of_getElem? hg))
      clear hg hv3
      go_upto_region 12 with (fail)
      refine wp_world ?_
      intro W8 hW8
      obtain ⟨hB8,T8,hs8⟩:=world1 hW8
      obtain ⟨d1,d2,d3,d4,d5,d6⟩:=T8.three
      have hBw:=nx hBr hB8
      obtain ⟨bx,s2,a2,l2,k2,eb,hbx,f1,f2,f3,hv2⟩:=(HX2.out.below hBw).face HF.out
      cases eb
      have HV2:=HidS.mk hv2
      have HV3:=HidS.mk (HV3.out.ext (lx hB8))
      have hR8:=HidS.mk (hR.out.below hB8)
      have hl1:=lasts_int (f.2 * g.2)
      clear hW8 g1 g2 g3 hv2 T8 hR
      refine wp_serH 11 [pcD 10 [] (fun w v=>IntV w v (f.2 * g.2))] ?_
      refine sRd ?_
      refine sRc (fun wS hI Gk hG=>by go_simp; exact ck hG (mul_any _ _ f.2 g.2 wS (HV2.out.ext hI.lext).weak (HV3.out.ext hI.lext).weak HPS.out.2.1 HPS.out.2.2)) (fun _ hv=>?_)
      obtain ⟨_,-,s5,a5,l5,k5,_,rfl,-⟩:=hv
      refine sRe ?_
      intro w9 hb9 h9
      have H9:=HidS.mk (show IntV w9 (.agg #[.bool s5,.slice a5 l5 k5]) (f.2 * g.2) from h9)
      have hR9:=HidS.mk (hR8.out.below hb9)
      have hB9:=nx hBw hb9
      clear h9 d1 d2 d3 d4 d5 d6 f1 f2 f3 hR8
      go_wp2_with fail
      refine (sadd_any _ (r + j) _ g.1 (f.2 * g.2) _ w9 hR9.out H9.out HIG.out HAS.out HPS.out.1 oM).mono ?_
      rintro e w10 ⟨⟨v6,rfl⟩,h6,hg6⟩
      have hB10 : Below w2.heap.size w2 w10:=hB9.grown hg6 (by have:=hB9.size; omega) (fun g hg=>by cases hg; exact Nat.le_refl _)
      have hR10 : HidS (SumV w10 w2.heap.size (r + (j + 1)) ((preC (bOf c) (x.take i) ++ preL f.2 ((bOf c f.1).take (j + 1))).foldl insC [])):=⟨by
       rw [preL_sn HGF.out,<-List.append_assoc,fold_sn]; exact h6⟩
      clear h6
      go_wp2
      go_roundw
      case rel=>exact ⟨j + 1,by omega,by simp,hR10,hB10⟩
      case measure=>simp [intOf]; omega
     ·obtain rfl : ny = j:=by omega
      rw [take_all HNY.out] at hR
      have hR2 : HidS (SumV wr w2.heap.size (preC (bOf c) (x.take (i + 1))).length ((preC (bOf c) (x.take (i + 1))).foldl insC [])):=⟨by
       have h1 : (preL f.2 (bOf c f.1)).length = ny:=by unfold preL; rw [List.length_map,HNY.out]
       rw [pre_snoc HF.out,List.length_append,HR.out,h1]
       exact hR.out⟩
      go_wp2
      go_roundw
      case rel=>exact ⟨i + 1,by omega,by simp,hR2,hBr⟩
      case measure=>simp [intOf]; omega
   ·obtain rfl : k = i:=by omega
    rw [take_all HXN.out] at hO
    have hq9 : (preC (bOf c) x).length<=900000:=by rw [pre_len]; exact HL9.out
    have HMF:=HidS.mk (mak_facts (pre_ids HK.out (x:=x)) (by rw [pre_nrm]; exact HA.out.sm) oM)
    have HQ9:=HidS.mk hq9
    clear hq9
    go_wp2_with fail
    refine (schain_any _ _ (makC (preC (bOf c) x)) wr hO.out HMF.out.1 HMF.out.2.1 HMF.out.2.2.1 (by have:=HQ9.out; omega) HMF.out.2.2.2).mono ?_
    rintro e w6 ⟨u6,rfl,h6,hb6⟩
    obtain ⟨o6,m6,q6,rfl⟩ : ∃o m q,u6 = .slice o m q:=(LsV.shape h6).elim fun o h=>h.elim fun q h=>⟨o,_,q,h.1⟩
    rw [mak_pre] at h6
    have H6:=HidS.mk h6
    clear h6
    go_wp2
    refine leaves_cons (f:=89) (args:=#[]) sI (by simp [go_sem]) ?_
    refine (idle_bo _).mono ?_
    rintro e u' w'' ⟨rfl,rfl,rfl⟩
    exact ⟨_,results_tmp2 rfl _ _ _,_,rfl,⟨_,_,_,rfl,by rw [<-HLL.out,if_pos sI]; exact H6.out⟩,nx hb2 (nx hB hb6)⟩
 ·have hne : (d2 != 0) = true:=by simpa using h0
  have HNE:=HidS.mk h0
  clear h0 hLC HC HX
  go_wp2
  refine leaves_cons (f:=89) (args:=#[]) sI (by simp [go_sem]) ?_
  refine (idle_bo _).mono ?_
  rintro e u' w'' ⟨rfl,rfl,rfl⟩
  exact ⟨_,results_tmp2 rfl _ _ _,_,rfl,⟨_,_,_,rfl,by rw [<-HLL.out,if_neg HNE.out]; exact LsV.nil _ _ _ _ (Nat.zero_le _)⟩,hb2⟩
theorem cmp_same (y z : Int) : (cmpI y z == 0) = decide (y = z):=by
 rcases Int.lt_trichotomy y z with h | h | h
 ·rw [cmpI_lt h,decide_eq_false oM]; rfl
 ·rw [cmpI_eq h,decide_eq_true h]; rfl
 ·rw [cmpI_gt h,decide_eq_false oM]; rfl
set_option maxHeartbeats 8000000 in
set_option maxRecDepth 20000 in
theorem eqf_any (f g : Int × Int) (s1 s2 : Bool) (o1 o2 : Option Addr) (n1 n2 k1 k2 : Nat) (w : World) (h1 : IntV w (.agg #[.bool s1,.slice o1 n1 k1]) f.2) (h2 : IntV w (.agg #[.bool s2,.slice o2 n2 k2]) g.2) :
  Calls Tryz.prog 95 #[.agg #[.int .i64 f.1,.bool s1,.slice o1 n1 k1],.agg #[.int .i64 g.1,.bool s2,.slice o2 n2 k2]] w fun e w'=>e = .returned (.bool (decide (f = g)))/\Below w.heap.size w w':=by
 obtain ⟨p,y⟩:=f
 obtain ⟨q,z⟩:=g
 obtain ⟨ans,han⟩ : ∃t,decide ((p,y) = (q,z)) = t:=⟨_,rfl⟩
 rw [han]
 simp only at h1 h2 ⊢
 have H1:=HidS.mk h1
 have H2:=HidS.mk h2
 have HN:=HidS.mk han
 clear h1 h2 han
 go_enter Tryz.func95,Tryz.ntmps95
 go_upto_region 1 with (fail)
 refine wp_world ?_
 intro W5 hW5
 obtain ⟨hB5,T1,T2,hs5⟩:=world2 hW5
 obtain ⟨c1,c2,c3,c4,c5,c6⟩:=T1.three
 obtain ⟨d1,d2,d3,d4,d5,d6⟩:=T2.three
 have H1:=HidS.mk (H1.out.ext (lx hB5))
 have H2:=HidS.mk (H2.out.ext (lx hB5))
 clear hW5 T1 T2
 by_cases hid : p = q
 ·subst hid
  go_wp2_with fail
  refine (cmp_any _ _ y z W5 H1.out.weak H2.out.weak).mono ?_
  rintro e w6 ⟨rfl,hb6⟩
  have hB6:=nx hB5 hb6
  obtain ⟨cv,hcv⟩ : ∃t,cmpI y z = t:=⟨_,rfl⟩
  have hce : (cv == 0) = ans:=by
   rw [<-hcv,cmp_same,<-HN.out]
   simp
  rw [hcv]
  clear hcv
  go_wp2
  go_ret
  exact ⟨rfl,hB6⟩
 ·have hne : (p == q) = false:=by simpa using hid
  obtain rfl : ans = false:=HN.out.symm.trans (decide_eq_false fun e=>hid (by cases e; rfl))
  go_wp2
  go_ret
  exact ⟨rfl,hB5⟩
set_option maxHeartbeats 8000000 in
set_option maxRecDepth 20000 in
theorem eqfn_any (va vb : Value) (a b : Ch) (w : World) (ha : ChnV w va a) (hb : ChnV w vb b) :
  Calls Tryz.prog 94 #[va,vb,.func (.func 95) #[] #[]] w fun e w'=>e = .returned (.bool (decide (a = b)))/\Below w.heap.size w w':=by
 obtain ⟨ao,ac,rfl,-,hc1⟩:=id ha.shape
 obtain ⟨bo,bc,rfl,-,hc2⟩:=id hb.shape
 obtain ⟨n,hbn⟩ : ∃n,b.length = n:=⟨_,rfl⟩
 obtain ⟨m,ham⟩ : ∃m,a.length = m:=⟨_,rfl⟩
 obtain ⟨ans,han⟩ : ∃q,decide (a = b) = q:=⟨_,rfl⟩
 have h1:=hb.len
 have h2:=ha.len
 rw [hbn] at hb h1 ⊢
 rw [ham] at ha h2 ⊢
 rw [han]
 have HA:=HidS.mk ha
 have HB:=HidS.mk hb
 have HN:=HidS.mk han
 have HBN:=HidS.mk hbn
 have HAM:=HidS.mk ham
 have hm : m<=9223372036854775807:=by omega
 have hfn : ∀(args : Array Value) (w : World),(callFunc 95 args).run Tryz.prog w = .ok (.enter 95 args) w:=fun _ _=>rfl
 clear ha hb han
 go_enter Tryz.func94,Tryz.ntmps94
 by_cases hmn : m = n
 ·subst hmn
  go_wp2
  go_loopw [7,17] (fun _ iv wr=>∃i : Nat,i<=m/\iv = .int .i64 i/\HidS (a.take i = b.take i)/\Below w.heap.size w wr) (fun _ iv _=>m - (intOf iv).toNat)
  case atStart=>exact ⟨0,by omega,rfl,⟨rfl⟩,Below.refl _ _⟩
  case round=>
   obtain ⟨i,hi,rfl,hT,hB⟩:=hrel
   by_cases hlt : i < m
   ·obtain ⟨f,hf⟩:=lt_get HAM.out hlt
    obtain ⟨g,hg⟩:=lt_get HBN.out hlt
    obtain ⟨b1,s1,a1,l1,k1,rfl,hb1,f1,f2,f3,hv1⟩:=(HA.out.below hB).face hf
    have HF:=HidS.mk hf
    have HG:=HidS.mk hg
    have HV1:=HidS.mk hv1
    clear hv1 hf
    go_upto_region 6 with (fail)
    refine wp_world ?_
    intro W5 hW5
    obtain ⟨hB5,T3,hs5⟩:=world1 hW5
    have HT3:=HidS.mk T3
    have hB5':=nx hB hB5
    obtain ⟨b2,s2,a2,l2,k2,rfl,hb2,g1,g2,g3,hv2⟩:=(HB.out.below hB5').face hg
    have HV2:=HidS.mk hv2
    clear hW5 f1 f2 f3 T3 hv2 hg
    go_upto_region 7 with (fail)
    refine wp_world ?_
    intro W6 hW6
    obtain ⟨hB6,T4,hs6⟩:=world1 hW6
    have hB6':=nx hB5' hB6
    obtain ⟨c1,c2,c3,c4,c5,c6⟩:=(HT3.out.below hB6).three
    obtain ⟨d1,d2,d3,d4,d5,d6⟩:=T4.three
    have HV1:=HidS.mk (HV1.out.ext (lx (nx hB5 hB6)))
    have HV2:=HidS.mk (HV2.out.ext (lx hB6))
    clear hW6 g1 g2 g3 T4
    go_wp2_with fail
    refine (eqf_any f g s1 s2 a1 a2 l1 l2 k1 k2 W6 HV1.out HV2.out).mono ?_
    rintro e w7 ⟨rfl,hb7⟩
    have hB7:=nx hB6' hb7
    clear c1 c2 c3 c4 c5 c6 d1 d2 d3 d4 d5 d6
    by_cases hfg : f = g
    ·have hd : decide (f = g) = true:=decide_eq_true hfg
     have HFG:=HidS.mk hfg
     rw [hd]
     clear hfg hd
     go_wp2
     go_roundw
     case rel=>exact ⟨i + 1,by omega,by simp,⟨by rw [take_sn HF.out,take_sn HG.out,hT.out,HFG.out]⟩,hB7⟩
     case measure=>simp [intOf]; omega
    ·have hd : decide (f = g) = false:=decide_eq_false hfg
     obtain rfl : ans = false:=HN.out.symm.trans (decide_eq_false fun e=>by
      subst e
      exact hfg (Option.some.inj (HF.out.symm.trans HG.out)))
     rw [hd]
     clear hfg hd
     go_wp2
     go_ret
     exact ⟨rfl,hB7⟩
   ·obtain rfl : m = i:=by omega
    have he : HidS (a = b):=⟨by rw [<-take_all HAM.out,<-take_all HBN.out]; exact hT.out⟩
    go_wp2
    go_ret
    obtain rfl : ans = true:=HN.out.symm.trans (decide_eq_true he.out)
    exact ⟨rfl,hB⟩
 ·have hne : HidS (a = b->False):=⟨fun e=>hmn (by rw [<-HAM.out,<-HBN.out,e])⟩
  go_wp2
  go_ret
  obtain rfl : ans = false:=HN.out.symm.trans (decide_eq_false hne.out)
  exact ⟨rfl,Below.refl _ _⟩
set_option maxHeartbeats 8000000 in
set_option maxRecDepth 20000 in
theorem iequal_any (va vb : Value) (a b : Ch) (w : World) (ha : ChnV w va a) (hb : ChnV w vb b) :
  Calls Tryz.prog 46 #[va,vb] w fun e w'=>e = .returned (.bool (decide (a = b)))/\Below w.heap.size w w':=by
 have HC:=HidS.mk (eqfn_any va vb a b w ha hb)
 obtain ⟨ao,ac,rfl,-,hc1⟩:=id ha.shape
 obtain ⟨bo,bc,rfl,-,hc2⟩:=id hb.shape
 obtain ⟨ans,han⟩ : ∃q,decide (a = b) = q:=⟨_,rfl⟩
 rw [han] at HC ⊢
 clear ha hb han
 go_enter Tryz.func46,Tryz.ntmps46
 go_wp2_with fail
 refine HC.out.mono ?_
 rintro e w2 ⟨rfl,hb2⟩
 go_wp2
 go_ret
 exact ⟨rfl,hb2⟩
structure VlOk (a b : Cx) (m : Mp) : Prop where
 va : ValX a
 vb : ValX b
 ia : ∀f ∈ a,I64 f.1
 ib : ∀f ∈ b,I64 f.1
 im : ∀g ∈ m,∀p ∈ g.2,I64 p.1
 la : a.length<=1000000
 lb : b.length<=1000000
 lm : ∀g ∈ m,g.2.length<=900000
 sn : ∀g ∈ m,SmN (nrm g.2)
 ob : ∀g ∈ m,ActOk (bOf b) g.2/\lenA (bOf b) g.2<=900000
 oa : ∀f ∈ a,ActOk (imgM m) f.2.2/\lenA (imgM m) f.2.2<=900000
theorem hom_ids {c : Cx} {d : Int} {x : Ch} (hi : ∀f ∈ c,I64 f.1) (h : HomD c d x) : ∀g ∈ x,I64 g.1:=fun g hg=>by
 obtain ⟨q,h1,-⟩:=h g hg
 obtain ⟨h2,h3⟩:=findC_mem h1
 rw [<-h3]
 exact hi q h2
theorem bof_ids {c : Cx} (hv : ValX c) (hi : ∀f ∈ c,I64 f.1) (i : Int) : ∀g ∈ bOf c i,I64 g.1:=by
 unfold bOf
 rcases hf : findC c i with _ | q
 ·intro g hg; cases hg
 ·exact hom_ids hi (hv.face q (findC_mem hf).1).1
def idP (f : Cel) (g : Int × Ch) : Prop:=g.1 = f.1/\ValC g.2
theorem prp_of {a : Cx} {m : Mp} {n : Nat} (hs : a.Pairwise fun a b=>a.1 < b.1) (ha : a.length = n) (hm : m.length = n) (h : uptP idP a m n) : PrpM m/\m.map (·.1) = a.map (·.1):=by
 have hid : m.map (·.1) = a.map (·.1):=by
  refine List.ext_getElem (by simp [ha,hm]) fun i h1 h2=>?_
  rw [List.getElem_map,List.getElem_map]
  rw [List.length_map] at h1 h2
  exact (h i oM _ _ (List.getElem?_eq_getElem h2) (List.getElem?_eq_getElem h1)).1
 refine ⟨⟨?_,fun g hg=>?_⟩,hid⟩
 ·have h1 : (a.map (·.1)).Pairwise (· < ·):=List.pairwise_map.2 hs
  rw [<-hid] at h1
  exact List.pairwise_map.1 h1
 ·obtain ⟨i,hi,rfl⟩:=List.getElem_of_mem hg
  exact (h i oM _ _ (List.getElem?_eq_getElem oM) (List.getElem?_eq_getElem hi)).2
theorem has_of {a : Cx} {m : Mp} (hv : ValX a) (hid : m.map (·.1) = a.map (·.1)) {f : Cel} (hf : f ∈ a) : hasB m f.2.2 = true:=hasB_iff.2 fun g hg=>by
 obtain ⟨q,h1,-⟩:=(hv.face f hf).1 g hg
 obtain ⟨h2,h3⟩:=findC_mem h1
 exact findM_ids (by rw [hid]; exact List.mem_map.2 ⟨q,h2,h3⟩)
set_option maxHeartbeats 16000000 in
set_option maxRecDepth 20000 in
theorem ivalid_any (va vb vm : Value) (a b : Cx) (m : Mp) (w : World) (ha : CpxV w va a) (hb : CpxV w vb b) (hm : MapV w vm m) (hok : VlOk a b m) :
  Calls Tryz.prog 10 #[va,vb,vm] w fun e w'=>∃q,e = .returned (.bool q)/\(q = true ↔ ValR a b m)/\Below w.heap.size w w':=by
 obtain ⟨ao,ac,rfl,-,hc1⟩:=id ha.shape
 obtain ⟨bo,bc,rfl,-,hc2⟩:=id hb.shape
 obtain ⟨mo,mc,rfl,-,hc3⟩:=id hm.shape
 obtain ⟨na,hna⟩ : ∃n,a.length = n:=⟨_,rfl⟩
 obtain ⟨n,hmn⟩ : ∃n,m.length = n:=⟨_,rfl⟩
 obtain ⟨bl,hbl⟩ : ∃n,b.length = n:=⟨_,rfl⟩
 have hla:=hok.la
 have hl2:=hm.len
 rw [hna] at ha hla ⊢
 rw [hmn] at hm hl2 ⊢
 rw [hbl] at hb ⊢
 have hn9 : n<=9223372036854775807:=by omega
 have HA:=HidS.mk ha
 have HB:=HidS.mk hb
 have HM:=HidS.mk hm
 have HAN0:=HidS.mk hna
 have HMN:=HidS.mk hmn
 have HOK:=HidS.mk hok
 clear ha hb hm hna hmn hbl hok hl2
 go_enter_defers Tryz.func10,Tryz.ntmps10
 by_cases hmna : n = na
 ·subst hmna
  have HAL:=HAN0
  go_wp2
  go_loopw [7,23] (fun _ iv wr=>∃i : Nat,i<=n/\iv = .int .i64 i/\HidS (uptP idP a m i)/\Below w.heap.size w wr) (fun _ iv _=>n - (intOf iv).toNat)
  case atStart=>exact ⟨0,by omega,rfl,⟨fun j hj=>by omega⟩,Below.refl _ _⟩
  case round=>
   obtain ⟨i,hi,rfl,hU,hB⟩:=hrel
   by_cases hlt : i < n
   ·obtain ⟨g,hg⟩:=lt_get HMN.out hlt
    obtain ⟨f,hf⟩:=lt_get HAL.out hlt
    obtain ⟨p,y⟩:=g
    obtain ⟨b1,o1,q1,rfl,hb1,f1,f2,hv1⟩:=(HM.out.below hB).img hg
    simp only at f1 f2 hv1
    have HV:=HidS.mk hv1
    have HF:=HidS.mk hf
    have HG:=HidS.mk hg
    clear hv1 hf hg
    go_upto_region 7 with (fail)
    refine wp_world ?_
    intro W5 hW5
    obtain ⟨hB5,T2,hs5⟩:=world1 hW5
    obtain ⟨c1,c2,c3,c4⟩:=T2.two
    have hB5':=nx hB hB5
    have HV5:=HidS.mk (HV.out.below hB5)
    obtain ⟨be,o9,q9,rfl,hbe,g1,g2,g3,-⟩:=(HA.out.below hB5').cel HF.out
    clear hW5 f1 f2 T2
    by_cases hpf : p = f.1
    ·subst hpf
     obtain ⟨ans,han⟩ : ∃q : Bool,(q = true ↔ ValC y):=by classical exact ⟨decide (ValC y),decide_eq_true_iff⟩
     have HAN:=HidS.mk han
     clear han
     refine wp_ser [pcD 11 [] (fun _ v=>v = .bool ans)] ?_
     refine sRd ?_
     refine sRc (fun wS hI Gk hG=>by go_simp; exact ck hG ((chvalid_any _ y wS (HV5.out.below hI.bel)).mono fun e w' ⟨q,h1,h2,h3⟩=>⟨_,h1,congrArg Value.bool (Bool.eq_iff_iff.2 (h2.trans HAN.out.symm)),h3⟩)) (fun _ hv=>?_)
     obtain ⟨_,-,rfl⟩:=hv
     refine sRd ?_
     refine sRe ?_
     intro w6 hb6 _
     have hB6:=nx hB5' hb6
     clear c1 c2 c3 c4 g1 g2 g3
     cases ans
     ·have HNO : HidS (¬ ValR a b m):=⟨fun hr=>by
       have h1:=HAN.out.2 (hr.prp.val _ (List.mem_of_getElem? HG.out))
       cases h1⟩
      go_wp2
      refine leaves_cons (f:=41) (args:=#[]) sI (by simp [go_sem]) ?_
      refine (idle_iv _).mono ?_
      rintro e u' w'' ⟨rfl,rfl,rfl⟩
      exact ⟨_,results_tmp rfl _ _ _,false,rfl,⟨fun h=>(by cases h),fun h=>absurd h HNO.out⟩,hB6⟩
     ·have HU1 : HidS (uptP idP a m (i + 1)):=⟨hU.out.step HF.out HG.out ⟨rfl,HAN.out.1 rfl⟩⟩
      clear HAN
      go_wp2
      go_roundw
      case rel=>exact ⟨i + 1,by omega,by simp,HU1,hB6⟩
      case measure=>simp [intOf]; omega
    ·have hne : (p != f.1) = true:=by simpa using hpf
     have HNO : HidS (¬ ValR a b m):=⟨fun hr=>hpf (hr.cel i (by rw [HAL.out]; exact hlt) f _ HF.out HG.out).1⟩
     clear hpf
     refine wp_ser [] ?_
     refine sRd ?_
     refine sRf ?_
     intro w6 hb6
     have hB6:=nx hB5' hb6
     clear c1 c2 c3 c4 g1 g2 g3
     go_wp2
     refine leaves_cons (f:=41) (args:=#[]) sI (by simp [go_sem]) ?_
     refine (idle_iv _).mono ?_
     rintro e u' w'' ⟨rfl,rfl,rfl⟩
     exact ⟨_,results_tmp rfl _ _ _,false,rfl,⟨fun h=>(by cases h),fun h=>absurd h HNO.out⟩,hB6⟩
   ·obtain rfl : n = i:=by omega
    obtain ⟨w1,rfl⟩ : ∃x,x = wr:=⟨_,rfl⟩
    have HPR:=HidS.mk (prp_of HOK.out.va.srt HAL.out HMN.out hU.out)
    have HMP : HidS (MpOk m):=⟨⟨HPR.out.1.srt,fun g hg=>by
     obtain ⟨q,h1,h2⟩:=List.mem_map.1 (show g.1 ∈ a.map (·.1) by rw [<-HPR.out.2]; exact List.mem_map.2 ⟨g,hg,rfl⟩)
     rw [<-h2]; exact HOK.out.ia q h1,HOK.out.im,by rw [HMN.out]; exact hla⟩⟩
    have HHB : HidS (∀f ∈ a,hasB m f.2.2 = true):=⟨fun f hf=>has_of HOK.out.va HPR.out.2 hf⟩
    go_upto_region 11 with (fail)
    refine wp_world ?_
    intro W1 hW1
    obtain ⟨hB1,T9,hs1⟩:=world1 hW1
    have hpl0:=hB.size
    have hI0 : HidS (ImgS w W1 w1.heap.size mo n mc m):=⟨.inl T9⟩
    obtain ⟨p,hp⟩ : ∃p,w1.heap.size = p:=⟨_,rfl⟩
    have hpl : w.heap.size<=p:=by omega
    have hBW:=nx hB hB1
    have hU0 : HidS (uptP (cellP b) a m 0/\uptP (comP b m) a m 0):=⟨fun j hj=>by omega,fun j hj=>by omega⟩
    rw [hp] at hI0 ⊢
    clear hW1 T9 hB1 hU hp hpl0 hB hs1
    go_wp2
    go_loopw [10,12,13,14,15,48] (fun _ _ _ _ _ iv wr=>∃i : Nat,i<=n/\iv = .int .i64 i/\HidS (uptP (cellP b) a m i/\uptP (comP b m) a m i)/\HidS (ImgS w wr p mo n mc m)/\Below w.heap.size w wr) (fun _ _ _ _ _ iv _=>n - (intOf iv).toNat)
    case atStart=>exact ⟨0,by omega,rfl,hU0,hI0,hBW⟩
    case round=>
     clear hU0 hI0 hBW
     obtain ⟨i,hi,rfl,hU,hI,hB⟩:=hrel
     by_cases hlt : i < n
     ·obtain ⟨g,hg⟩:=lt_get HMN.out hlt
      obtain ⟨f,hf⟩:=lt_get HAL.out hlt
      obtain ⟨b1,o1,q1,rfl,hb1,f1,f2,hv1⟩:=(HM.out.below hB).img hg
      obtain ⟨gp,y⟩:=g
      simp only at f1 f2 hv1
      obtain ⟨ny,hny⟩ : ∃n,y.length = n:=⟨_,rfl⟩
      rw [hny] at f2 hv1
      have HV:=HidS.mk hv1
      have HF:=HidS.mk hf
      have HG:=HidS.mk hg
      have HNY:=HidS.mk hny
      have HIM:=HidS.mk (HOK.out.im _ (List.mem_of_getElem? hg))
      have HLM:=HidS.mk (HOK.out.lm _ (List.mem_of_getElem? hg))
      have HOB:=HidS.mk (HOK.out.ob _ (List.mem_of_getElem? hg))
      have hids : HidS (gp = f.1):=⟨by
       have h1:=congrArg (·[i]?) HPR.out.2
       simp only [List.getElem?_map,hg,hf] at h1
       exact Option.some.inj h1⟩
      have hny9 : ny<=900000:=by rw [<-hny]; exact HLM.out
      clear hv1 hf hg hny
      go_upto_region 14 with (fail)
      refine wp_world ?_
      intro W5 hW5
      obtain ⟨hB5,T2,hs5⟩:=world1 hW5
      have HT2:=HidS.mk T2
      obtain ⟨c1,c2,c3,c4⟩:=T2.two
      have hB5':=nx hB hB5
      have HV5:=HidS.mk (HV.out.below hB5)
      clear hW5 f1 f2 T2
      go_wp2_with fail
      refine (chdim_any _ _ b y W5 (HB.out.below hB5') HV5.out HOK.out.vb.srt HOK.out.ib HIM.out HOK.out.lb (by have:=HLM.out; omega)).mono ?_
      rintro e w6 ⟨rfl,hb6⟩
      obtain ⟨d1,d2,hd⟩ : ∃d1 d2,dimC b y = (d1,d2):=⟨_,_,rfl⟩
      rw [hd]
      have hB6:=nx hB5' hb6
      have HV6:=HidS.mk (HV5.out.below hb6)
      have HT6:=HidS.mk (HT2.out.below hb6)
      have HDD:=HidS.mk hd
      have HD:=HidS.mk (congrArg Prod.snd hd)
      clear hd c1 c2 c3 c4
      obtain ⟨c1,c2,c3,c4⟩:=HT6.out.two
      obtain ⟨be,o9,q9,rfl,hbe,f1,f2,f3,-⟩:=(HA.out.below hB6).cel HF.out
      by_cases h0 : d2 = 0
      ·subst h0
       by_cases hy0 : ny = 0
       ·have hng : ¬ ((ny : Int) > 0):=by omega
        have hng2 : ¬ ((0 : Int) < (ny : Int)):=by omega
        have hng3 : ¬ (0 < ny):=by omega
        have HC1 : HidS (uptP (cellP b) a m (i + 1)):=⟨hU.out.1.step HF.out HG.out ⟨hids.out,HD.out,fun hne=>absurd (List.eq_nil_of_length_eq_zero (HNY.out.trans hy0)) hne⟩⟩
        clear hy0
        go_upto_region 17 with (fail)
        clear hng hng2 hng3 f1 f2 f3
        go_wp2_with fail
        refine (chbd_any _ _ b y w6 (HB.out.below hB6) (HV6.out) HOK.out.vb.srt HOK.out.ib HIM.out HOK.out.lb (by have:=HLM.out; omega) (bof_ids HOK.out.vb HOK.out.ib) HOB.out.1 HOB.out.2).mono ?_
        rintro e w7 ⟨_,rfl,⟨o7,n7,k7,rfl,h7⟩,hb7⟩
        rw [HD.out]
        have H7:=HidS.mk h7
        have hB7:=nx hB6 hb7
        obtain ⟨be,o9,q9,eb,hbe,f1,f2,f3,hv9⟩:=(HA.out.below hB7).cel HF.out
        cases eb
        have HI7:=HidS.mk (hI.out.below (nx (nx hB5 hb6) hb7))
        have HFA:=HidS.mk (hom_ids HOK.out.ia (HOK.out.va.face f (List.mem_of_getElem? HF.out)).1)
        have HOA:=HidS.mk (HOK.out.oa f (List.mem_of_getElem? HF.out))
        have HV9:=HidS.mk hv9
        clear c1 c2 c3 c4 h7 hv9
        go_wp2_with fail
        refine (imgapply_any p _ n mc m _ f.2.2 w w7 HI7.out HM.out (TE.below hB7 (Nat.le_refl _)) HMP.out.srt HMP.out.ids HMP.out.img HMP.out.len HV9.out HFA.out HOA.out.1 HOA.out.2).mono ?_
        rintro e w8 ⟨_,rfl,⟨o8,n8,k8,rfl,h8⟩,hI8,hg8⟩
        have H8:=HidS.mk h8
        have hB8 : Below w.heap.size w w8:=hB7.grown hg8 hB7.size (fun g hg=>by cases hg; exact hpl)
        have H7:=HidS.mk (H7.out.te (HI7.out.te hg8 dE))
        have HI8:=HidS.mk hI8
        have hae : apE m f.2.2 = 0:=by unfold apE; rw [HHB.out f (List.mem_of_getElem? HF.out)]; rfl
        rw [hae]
        obtain ⟨ans,han⟩ : ∃q,decide (edC b y = apC m f.2.2) = q:=⟨_,rfl⟩
        have HAN:=HidS.mk han
        clear h8 f1 f2 f3 hI8 hg8 hae han
        go_wp2_with fail
        refine (iequal_any _ _ _ _ w8 H7.out H8.out).mono ?_
        rintro e w9 ⟨rfl,hb9⟩
        rw [HAN.out]
        have hB9:=nx hB8 hb9
        have HI9:=HidS.mk (HI8.out.below hb9)
        clear hb9
        cases ans
        ·have HNO : HidS (¬ ValR a b m):=⟨fun hr=>of_decide_eq_false HAN.out (hr.com i (by rw [HAL.out]; exact hlt) f _ HF.out HG.out)⟩
         go_wp2
         refine leaves_cons (f:=41) (args:=#[]) sI (by simp [go_sem]) ?_
         refine (idle_iv _).mono ?_
         rintro e u' w'' ⟨rfl,rfl,rfl⟩
         exact ⟨_,results_tmp rfl _ _ _,false,rfl,⟨fun h=>(by cases h),fun h=>absurd h HNO.out⟩,hB9⟩
        ·have HC2 : HidS (uptP (comP b m) a m (i + 1)):=⟨hU.out.2.step HF.out HG.out (show edC b y = apC m f.2.2 from of_decide_eq_true HAN.out)⟩
         clear HAN
         go_wp2
         go_roundw
         case rel=>exact ⟨i + 1,by omega,by simp,⟨HC1.out,HC2.out⟩,HI9,hB9⟩
         case measure=>simp [intOf]; omega
       ·have hgt : (ny : Int) > 0:=by omega
        have hgt2 : (0 : Int) < (ny : Int):=by omega
        have hgt3 : 0 < ny:=by omega
        clear hy0
        by_cases hde : d1 = f.2.1
        ·have HC1 : HidS (uptP (cellP b) a m (i + 1)):=⟨hU.out.1.step HF.out HG.out ⟨hids.out,HD.out,fun _=>(congrArg Prod.fst HDD.out).trans hde⟩⟩
         go_upto_region 17 with (fail)
         clear hgt hgt2 hgt3 f1 f2 f3
         go_wp2_with fail
         refine (chbd_any _ _ b y w6 (HB.out.below hB6) (HV6.out) HOK.out.vb.srt HOK.out.ib HIM.out HOK.out.lb (by have:=HLM.out; omega) (bof_ids HOK.out.vb HOK.out.ib) HOB.out.1 HOB.out.2).mono ?_
         rintro e w7 ⟨_,rfl,⟨o7,n7,k7,rfl,h7⟩,hb7⟩
         rw [HD.out]
         have H7:=HidS.mk h7
         have hB7:=nx hB6 hb7
         obtain ⟨be,o9,q9,eb,hbe,f1,f2,f3,hv9⟩:=(HA.out.below hB7).cel HF.out
         cases eb
         have HI7:=HidS.mk (hI.out.below (nx (nx hB5 hb6) hb7))
         have HFA:=HidS.mk (hom_ids HOK.out.ia (HOK.out.va.face f (List.mem_of_getElem? HF.out)).1)
         have HOA:=HidS.mk (HOK.out.oa f (List.mem_of_getElem? HF.out))
         have HV9:=HidS.mk hv9
         clear c1 c2 c3 c4 h7 hv9
         go_wp2_with fail
         refine (imgapply_any p _ n mc m _ f.2.2 w w7 HI7.out HM.out (TE.below hB7 (Nat.le_refl _)) HMP.out.srt HMP.out.ids HMP.out.img HMP.out.len HV9.out HFA.out HOA.out.1 HOA.out.2).mono ?_
         rintro e w8 ⟨_,rfl,⟨o8,n8,k8,rfl,h8⟩,hI8,hg8⟩
         have H8:=HidS.mk h8
         have hB8 : Below w.heap.size w w8:=hB7.grown hg8 hB7.size (fun g hg=>by cases hg; exact hpl)
         have H7:=HidS.mk (H7.out.te (HI7.out.te hg8 dE))
         have HI8:=HidS.mk hI8
         have hae : apE m f.2.2 = 0:=by unfold apE; rw [HHB.out f (List.mem_of_getElem? HF.out)]; rfl
         rw [hae]
         obtain ⟨ans,han⟩ : ∃q,decide (edC b y = apC m f.2.2) = q:=⟨_,rfl⟩
         have HAN:=HidS.mk han
         clear h8 f1 f2 f3 hI8 hg8 hae han
         go_wp2_with fail
         refine (iequal_any _ _ _ _ w8 H7.out H8.out).mono ?_
         rintro e w9 ⟨rfl,hb9⟩
         rw [HAN.out]
         have hB9:=nx hB8 hb9
         have HI9:=HidS.mk (HI8.out.below hb9)
         clear hb9
         cases ans
         ·have HNO : HidS (¬ ValR a b m):=⟨fun hr=>of_decide_eq_false HAN.out (hr.com i (by rw [HAL.out]; exact hlt) f _ HF.out HG.out)⟩
          go_wp2
          refine leaves_cons (f:=41) (args:=#[]) sI (by simp [go_sem]) ?_
          refine (idle_iv _).mono ?_
          rintro e u' w'' ⟨rfl,rfl,rfl⟩
          exact ⟨_,results_tmp rfl _ _ _,false,rfl,⟨fun h=>(by cases h),fun h=>absurd h HNO.out⟩,hB9⟩
         ·have HC2 : HidS (uptP (comP b m) a m (i + 1)):=⟨hU.out.2.step HF.out HG.out (show edC b y = apC m f.2.2 from of_decide_eq_true HAN.out)⟩
          clear HAN
          go_wp2
          go_roundw
          case rel=>exact ⟨i + 1,by omega,by simp,⟨HC1.out,HC2.out⟩,HI9,hB9⟩
          case measure=>simp [intOf]; omega
        ·have hne : (d1 != f.2.1) = true:=by simpa using hde
         have HNO : HidS (¬ ValR a b m):=⟨fun hr=>hde ((congrArg Prod.fst HDD.out).symm.trans ((hr.cel i (by rw [HAL.out]; exact hlt) f _ HF.out HG.out).2.2 (fun e=>by have h1:=HNY.out; simp only at e; rw [e] at h1; simp at h1; omega)))⟩
         clear hde
         go_wp2
         refine leaves_cons (f:=41) (args:=#[]) sI (by simp [go_sem]) ?_
         refine (idle_iv _).mono ?_
         rintro e u' w'' ⟨rfl,rfl,rfl⟩
         exact ⟨_,results_tmp rfl _ _ _,false,rfl,⟨fun h=>(by cases h),fun h=>absurd h HNO.out⟩,hB6⟩
      ·have hne : (d2 != 0) = true:=by simpa using h0
       have HNO : HidS (¬ ValR a b m):=⟨fun hr=>h0 (HD.out.symm.trans (hr.cel i (by rw [HAL.out]; exact hlt) f _ HF.out HG.out).2.1)⟩
       clear h0
       go_wp2
       refine leaves_cons (f:=41) (args:=#[]) sI (by simp [go_sem]) ?_
       refine (idle_iv _).mono ?_
       rintro e u' w'' ⟨rfl,rfl,rfl⟩
       exact ⟨_,results_tmp rfl _ _ _,false,rfl,⟨fun h=>(by cases h),fun h=>absurd h HNO.out⟩,hB6⟩
     ·obtain rfl : n = i:=by omega
      have HYES : HidS (ValR a b m):=⟨⟨HPR.out.1,HMN.out.trans HAL.out.symm,by rw [HAL.out]; exact hU.out.1,by rw [HAL.out]; exact hU.out.2⟩⟩
      go_wp2
      refine leaves_cons (f:=41) (args:=#[]) sI (by simp [go_sem]) ?_
      refine (idle_iv _).mono ?_
      rintro e u' w'' ⟨rfl,rfl,rfl⟩
      exact ⟨_,results_tmp rfl _ _ _,true,rfl,⟨fun _=>HYES.out,fun _=>rfl⟩,hB⟩
 ·have HNO : HidS (¬ ValR a b m):=⟨fun hr=>hmna (by have h1:=hr.len; rw [HMN.out,HAN0.out] at h1; exact h1)⟩
  have hne : ((n : Int) != (na : Int)) = true:=by simp; omega
  have hB0:=Below.refl w.heap.size w
  go_wp2
  refine leaves_cons (f:=41) (args:=#[]) sI (by simp [go_sem]) ?_
  refine (idle_iv _).mono ?_
  rintro e u' w'' ⟨rfl,rfl,rfl⟩
  exact ⟨_,results_tmp rfl _ _ _,false,rfl,⟨fun h=>(by cases h),fun h=>absurd h HNO.out⟩,hB0⟩
def VecS (x : Ch) (ids cur : List Int) (i : Nat) : Prop:=cur.length = ids.length/\∀(t : Nat) (a : Int),t < i->ids[t]? = some a->cur[t]? = some (coef x a)
theorem VecS.start (x : Ch) (ids : List Int) : VecS x ids (List.replicate ids.length 0) 0:=⟨List.length_replicate,fun t a h=>by omega⟩
theorem VecS.set {x : Ch} {ids cur : List Int} {i : Nat} {a : Int} (h : VecS x ids cur i) (ha : ids[i]? = some a) : VecS x ids (cur.set i (coef x a)) (i + 1):=⟨by rw [List.length_set]; exact h.1,fun t b hlt ht=>by
 by_cases e : t = i
 ·subst e
  rw [ha] at ht
  cases ht
  rw [List.getElem?_set_self (by rw [h.1]; exact (List.getElem?_eq_some_iff.1 ha).1)]
 ·rw [List.getElem?_set_ne (Ne.symm e)]
  exact h.2 t b oM ht⟩
theorem VecS.done {x : Ch} {ids cur : List Int} {n : Nat} (h : VecS x ids cur n) (hn : ids.length = n) : cur = ids.map (coef x):=by
 apply List.ext_getElem?
 intro t
 rw [List.getElem?_map]
 rcases ht : ids[t]? with _ | a
 ·have:=List.getElem?_eq_none_iff.1 ht
  rw [List.getElem?_eq_none (by rw [h.1]; exact this)]
  rfl
 ·rw [h.2 t a (by have:=(List.getElem?_eq_some_iff.1 ht).1; omega) ht]
  rfl
def VecT (zs : List Int) (w : World) (v : Value) : Prop:=∃o k q,v = .tuple #[.slice o k q,.int .i64 0]/\VecV w (.slice o k q) zs
set_option maxHeartbeats 16000000 in
set_option maxRecDepth 20000 in
theorem chvec_any (v u : Value) (c : Cx) (ck : Int) (x : Ch) (w : World) (h : CpxV w v c) (hx : ChnV w u x) (hs : c.Pairwise fun a b=>a.1 < b.1) (hI : ∀f ∈ c,I64 f.1) (hJ : ∀f ∈ x,I64 f.1) (hn : c.length<=1000000) (hl : x.length<=900000)
  (hv : ValC x) (hS : SmN (nrm x)) (h0 : (dimC c x).2 = 0) (h1 : x ≠ []->(dimC c x).1 = ck) :
  Calls Tryz.prog 54 #[v,.int .i64 ck,u] w fun e w'=>∃r,e = .returned r/\VecT ((cellsC c ck).map (coef x)) w' r/\Below w.heap.size w w':=by
 have HC:=HidS.mk (cellsof_any v u c x w h hx hs hI hJ hn oM)
 obtain ⟨ao,ac,rfl,-,-⟩:=id h.shape
 obtain ⟨bo,bc,rfl,-,-⟩:=id hx.shape
 obtain ⟨n,hxn⟩ : ∃n,x.length = n:=⟨_,rfl⟩
 obtain ⟨cn,hcn⟩ : ∃n,c.length = n:=⟨_,rfl⟩
 have HCN:=HidS.mk hn
 rw [hxn] at hx hl HC ⊢
 rw [hcn] at h HC ⊢
 obtain ⟨dd,hd⟩ : ∃d,(dimC c x).1 = d:=⟨_,rfl⟩
 unfold CofT at HC
 rw [hd,h0] at HC
 have hdk : n = 0 ∨ (0 < n/\ck = dd):=by
  rcases Nat.eq_zero_or_pos n with h | h
  ·exact .inl h
  ·exact .inr ⟨h,by rw [<-hd]; exact (h1 (fun e=>by rw [e] at hxn; simp at hxn; omega)).symm⟩
 have H:=HidS.mk h
 have HX:=HidS.mk hx
 have HXN:=HidS.mk hxn
 have HJ:=HidS.mk hJ
 have HVX:=HidS.mk hv
 have HSS:=HidS.mk hS
 have HCI : HidS (∀i ∈ cellsC c ck,I64 i):=⟨fun i hi=>by
  obtain ⟨f,h1,h2,-⟩:=cellsC_mem.1 hi
  rw [<-h2]; exact hI f h1⟩
 clear h hx hs hI hJ hn hd hxn hcn hv hS h0 h1
 have hmm:=@run_makeMap Tryz.prog
 go_enter_defers Tryz.func54,Tryz.ntmps54
 go_wp2_with fail
 refine HC.out.mono ?_
 rintro e w2 ⟨_,rfl,⟨o,k,q,rfl,-⟩,hb2⟩
 have HX2:=HidS.mk (HX.out.below hb2)
 clear HC HX
 rcases hdk with hn0 | ⟨hpos,rfl⟩
 ·have hng : ¬ ((n : Int) > 0):=by omega
  have hng2 : ¬ ((0 : Int) < (n : Int)):=by omega
  have hng3 : ¬ (0 < n):=by omega
  have HN0:=HidS.mk hn0
  clear hn0
  go_upto_region 7 with (fail)
  clear hng hng2 hng3
  have hO : HidS (SumV (w2.alloc (.map #[] 0)) w2.heap.size 0 ((x.take 0).foldl insC [])):=⟨SumV.made w2⟩
  have hal:=(Below.refl w2.heap.size w2).alloc (Nat.le_refl _) (.map #[] 0)
  go_wp2
  go_loopw [39] (fun iv wr=>∃i : Nat,i<=n/\iv = .int .i64 i/\HidS (SumV wr w2.heap.size i ((x.take i).foldl insC []))/\Below w2.heap.size w2 wr) (fun iv _=>n - (intOf iv).toNat)
  case atStart=>exact ⟨0,by omega,rfl,hO,hal⟩
  case round=>
   clear hO hal
   obtain ⟨i,hi,rfl,hO,hB⟩:=hrel
   by_cases hlt : i < n
   ·obtain ⟨f,hf⟩:=lt_get HXN.out hlt
    obtain ⟨b',s2,a2,l2,k2,rfl,hb,f1,f2,f3,hv⟩:=(HX2.out.below hB).face hf
    have HV:=HidS.mk hv
    have HF:=HidS.mk hf
    have hfm:=List.mem_of_getElem? hf
    have HIF:=HidS.mk (HJ.out f hfm)
    have HSK : HidS (Sm f.2):=⟨HSS.out.sm (nrm_le hfm)⟩
    have HSC : HidS (Sm (coef ((x.take i).foldl insC []) f.1)):=⟨HSS.out.sm (by
     have h1:=coef_nrm f.1 (x:=(x.take i).foldl insC [])
     have h2:=nrm_mak_from (l:=x.take i) (a:=[])
     have h3:=nrm_take (b:=x) (i:=i)
     simp only [nrm] at h2
     omega)⟩
    clear hv hf hfm
    go_upto_region 11 with (fail)
    refine wp_world ?_
    intro W5 hW5
    obtain ⟨hB5,T3,hs5⟩:=world1 hW5
    obtain ⟨c1,c2,c3,c4,c5,c6⟩:=T3.three
    have HV:=HidS.mk (HV.out.ext (lx hB5))
    have hO5:=HidS.mk (hO.out.below hB5)
    have hB5':=nx hB hB5
    clear hW5 f1 f2 f3 T3
    go_wp2_with fail
    refine (sadd_any _ i _ f.1 f.2 _ W5 hO5.out HV.out HIF.out HSC.out HSK.out oM).mono ?_
    rintro e w6 ⟨⟨v6,rfl⟩,h6,hg6⟩
    have hB6 : Below w2.heap.size w2 w6:=hB5'.grown hg6 (by have:=hB5'.size; omega) (fun g hg=>by cases hg; exact Nat.le_refl _)
    have hO6 : HidS (SumV w6 w2.heap.size (i + 1) ((x.take (i + 1)).foldl insC [])):=⟨by rw [foldl_sum (w:=w) (w':=w) (b:=0) (n:=0) HF.out]; exact h6⟩
    clear h6
    go_wp2
    go_roundw
    case rel=>exact ⟨i + 1,by omega,by simp,hO6,hB6⟩
    case measure=>simp [intOf]; omega
   ·obtain rfl : n = i:=by omega
    rw [take_all HXN.out] at hO
    obtain ⟨w3,rfl⟩ : ∃x,x = wr:=⟨_,rfl⟩
    have hO3 : HidS (SumV w3 w2.heap.size n x):=⟨by have:=hO.out; rw [show x.foldl insC [] = x from mak_val HVX.out] at this; exact this⟩
    clear hO
    go_wp2_with fail
    refine (pcells_any _ c ck w3 (H.out.below (nx hb2 hB)) HCN.out).mono ?_
    rintro e w4 ⟨u4,rfl,h4,hb4⟩
    obtain ⟨io,iq,rfl⟩:=LsO.shape h4
    obtain ⟨m,hm⟩ : ∃m,(cellsC c ck).length = m:=⟨_,rfl⟩
    have hm6 : m<=1000000:=by have h1:=cells_len (c:=c) (k:=ck); have:=HCN.out; omega
    rw [hm] at h4 ⊢
    have HI4:=HidS.mk h4.vs
    have HM:=HidS.mk hm
    have hO4:=HidS.mk (hO3.out.below hb4)
    have hB4:=nx hB hb4
    have hmk:=fun W=>mkVec (m : Int) m rfl oM W
    clear h4 hm
    go_upto_region 15 with (fail)
    refine wp_world ?_
    intro W1 hW1
    have hr : HidS (∃cur,VecS x (cellsC c ck) cur 0/\RowAt W1 w4.heap.size cur):=⟨_,VecS.start x (cellsC c ck),by rw [hW1.out,HM.out]; exact row_zero w4 m⟩
    have hB1 : Below w4.heap.size w4 W1:=by rw [hW1.out]; exact (Below.refl _ _).alloc (Nat.le_refl _) _
    clear hW1 hmk
    go_wp2
    go_loopw [16,17,58] (fun _ _ iv wr=>∃i : Nat,i<=m/\iv = .int .i64 i/\HidS (∃cur,VecS x (cellsC c ck) cur i/\RowAt wr w4.heap.size cur)/\Below w4.heap.size w4 wr) (fun _ _ iv _=>m - (intOf iv).toNat)
    case atStart=>exact ⟨0,by omega,rfl,hr,hB1⟩
    case round=>
     clear hr hB1
     obtain ⟨i,hi,rfl,hR,hBr⟩:=hrel
     by_cases hlt : i < m
     ·obtain ⟨a,ha⟩:=lt_get HM.out hlt
      obtain ⟨b2,rfl,hbi2,g1⟩:=(HI4.out.below hBr).int ha
      have HAA:=HidS.mk ha
      have HIA:=HidS.mk (HCI.out a (List.mem_of_getElem? ha))
      obtain ⟨F,hM,h2,h3⟩:=hO4.out.below hBr
      obtain ⟨sg,a1,l1,q1,hget,hgv⟩:=SumV.at_ h2 h3 a
      have hlk:=hM.look HIA.out (t:=tSum) (e:=tI) Tryz.underlying152 (Tryz.zeroI wr)
      rw [hget] at hlk
      obtain ⟨cur,hcur,hrow⟩:=hR.out
      have HCUR:=HidS.mk hcur
      have hk : i < cur.length:=by rw [hcur.1,HM.out]; exact hlt
      have hset:=HidS.mk (hrow.set hk hgv)
      obtain ⟨cz,hcz⟩ : ∃z,cur[i]? = some z:=⟨_,List.getElem?_eq_getElem hk⟩
      obtain ⟨s3,a3,l3,k3,d1,d2,d3,d4,-⟩:=hrow.cell hcz
      have HS:=HidS.mk (HCUR.out.set HAA.out)
      clear ha hM h2 h3 hget hgv hcur hrow hcz hR
      go_wp2
      go_roundw
      case rel=>exact ⟨i + 1,by omega,by simp,⟨_,HS.out,hset.out.1⟩,bset (bset hBr (Nat.le_refl _) _ _) (Nat.le_refl _) _ _⟩
      case measure=>simp [intOf]; omega
     ·obtain rfl : m = i:=by omega
      have hR : HidS (∃cur,cur = (cellsC c ck).map (coef x)/\RowAt wr w4.heap.size cur):=by
       obtain ⟨cur,h1,h2⟩:=hR.out
       exact ⟨cur,h1.done HM.out,h2⟩
      have hBB:=nx hb2 (nx hB4 hBr)
      go_wp2
      refine leaves_cons (f:=101) (args:=#[]) sI (by simp [go_sem]) ?_
      refine (idle_ve _).mono ?_
      rintro e u' w'' ⟨rfl,rfl,rfl⟩
      obtain ⟨cur,rfl,h2⟩:=hR.out
      exact ⟨_,results_tmp2 rfl _ _ _,_,rfl,⟨_,_,_,rfl,⟨_,m,m,rfl,by rw [List.length_map,HM.out],Nat.le_refl _,by omega,fun _=>⟨_,rfl,h2⟩⟩⟩,hBB⟩
 ·have hgt : (n : Int) > 0:=by omega
  have hgt2 : (0 : Int) < (n : Int):=by omega
  go_upto_region 7 with (fail)
  clear hgt hgt2
  have hO : HidS (SumV (w2.alloc (.map #[] 0)) w2.heap.size 0 ((x.take 0).foldl insC [])):=⟨SumV.made w2⟩
  have hal:=(Below.refl w2.heap.size w2).alloc (Nat.le_refl _) (.map #[] 0)
  go_wp2
  go_loopw [39] (fun iv wr=>∃i : Nat,i<=n/\iv = .int .i64 i/\HidS (SumV wr w2.heap.size i ((x.take i).foldl insC []))/\Below w2.heap.size w2 wr) (fun iv _=>n - (intOf iv).toNat)
  case atStart=>exact ⟨0,by omega,rfl,hO,hal⟩
  case round=>
   clear hO hal
   obtain ⟨i,hi,rfl,hO,hB⟩:=hrel
   by_cases hlt : i < n
   ·obtain ⟨f,hf⟩:=lt_get HXN.out hlt
    obtain ⟨b',s2,a2,l2,k2,rfl,hb,f1,f2,f3,hv⟩:=(HX2.out.below hB).face hf
    have HV:=HidS.mk hv
    have HF:=HidS.mk hf
    have hfm:=List.mem_of_getElem? hf
    have HIF:=HidS.mk (HJ.out f hfm)
    have HSK : HidS (Sm f.2):=⟨HSS.out.sm (nrm_le hfm)⟩
    have HSC : HidS (Sm (coef ((x.take i).foldl insC []) f.1)):=⟨HSS.out.sm (by
     have h1:=coef_nrm f.1 (x:=(x.take i).foldl insC [])
     have h2:=nrm_mak_from (l:=x.take i) (a:=[])
     have h3:=nrm_take (b:=x) (i:=i)
     simp only [nrm] at h2
     omega)⟩
    clear hv hf hfm
    go_upto_region 11 with (fail)
    refine wp_world ?_
    intro W5 hW5
    obtain ⟨hB5,T3,hs5⟩:=world1 hW5
    obtain ⟨c1,c2,c3,c4,c5,c6⟩:=T3.three
    have HV:=HidS.mk (HV.out.ext (lx hB5))
    have hO5:=HidS.mk (hO.out.below hB5)
    have hB5':=nx hB hB5
    clear hW5 f1 f2 f3 T3
    go_wp2_with fail
    refine (sadd_any _ i _ f.1 f.2 _ W5 hO5.out HV.out HIF.out HSC.out HSK.out oM).mono ?_
    rintro e w6 ⟨⟨v6,rfl⟩,h6,hg6⟩
    have hB6 : Below w2.heap.size w2 w6:=hB5'.grown hg6 (by have:=hB5'.size; omega) (fun g hg=>by cases hg; exact Nat.le_refl _)
    have hO6 : HidS (SumV w6 w2.heap.size (i + 1) ((x.take (i + 1)).foldl insC [])):=⟨by rw [foldl_sum (w:=w) (w':=w) (b:=0) (n:=0) HF.out]; exact h6⟩
    clear h6
    go_wp2
    go_roundw
    case rel=>exact ⟨i + 1,by omega,by simp,hO6,hB6⟩
    case measure=>simp [intOf]; omega
   ·obtain rfl : n = i:=by omega
    rw [take_all HXN.out] at hO
    obtain ⟨w3,rfl⟩ : ∃x,x = wr:=⟨_,rfl⟩
    have hO3 : HidS (SumV w3 w2.heap.size n x):=⟨by have:=hO.out; rw [show x.foldl insC [] = x from mak_val HVX.out] at this; exact this⟩
    clear hO
    go_wp2_with fail
    refine (pcells_any _ c ck w3 (H.out.below (nx hb2 hB)) HCN.out).mono ?_
    rintro e w4 ⟨u4,rfl,h4,hb4⟩
    obtain ⟨io,iq,rfl⟩:=LsO.shape h4
    obtain ⟨m,hm⟩ : ∃m,(cellsC c ck).length = m:=⟨_,rfl⟩
    have hm6 : m<=1000000:=by have h1:=cells_len (c:=c) (k:=ck); have:=HCN.out; omega
    rw [hm] at h4 ⊢
    have HI4:=HidS.mk h4.vs
    have HM:=HidS.mk hm
    have hO4:=HidS.mk (hO3.out.below hb4)
    have hB4:=nx hB hb4
    have hmk:=fun W=>mkVec (m : Int) m rfl oM W
    clear h4 hm
    go_upto_region 15 with (fail)
    refine wp_world ?_
    intro W1 hW1
    have hr : HidS (∃cur,VecS x (cellsC c ck) cur 0/\RowAt W1 w4.heap.size cur):=⟨_,VecS.start x (cellsC c ck),by rw [hW1.out,HM.out]; exact row_zero w4 m⟩
    have hB1 : Below w4.heap.size w4 W1:=by rw [hW1.out]; exact (Below.refl _ _).alloc (Nat.le_refl _) _
    clear hW1 hmk
    go_wp2
    go_loopw [16,17,58] (fun _ _ iv wr=>∃i : Nat,i<=m/\iv = .int .i64 i/\HidS (∃cur,VecS x (cellsC c ck) cur i/\RowAt wr w4.heap.size cur)/\Below w4.heap.size w4 wr) (fun _ _ iv _=>m - (intOf iv).toNat)
    case atStart=>exact ⟨0,by omega,rfl,hr,hB1⟩
    case round=>
     clear hr hB1
     obtain ⟨i,hi,rfl,hR,hBr⟩:=hrel
     by_cases hlt : i < m
     ·obtain ⟨a,ha⟩:=lt_get HM.out hlt
      obtain ⟨b2,rfl,hbi2,g1⟩:=(HI4.out.below hBr).int ha
      have HAA:=HidS.mk ha
      have HIA:=HidS.mk (HCI.out a (List.mem_of_getElem? ha))
      obtain ⟨F,hM,h2,h3⟩:=hO4.out.below hBr
      obtain ⟨sg,a1,l1,q1,hget,hgv⟩:=SumV.at_ h2 h3 a
      have hlk:=hM.look HIA.out (t:=tSum) (e:=tI) Tryz.underlying152 (Tryz.zeroI wr)
      rw [hget] at hlk
      obtain ⟨cur,hcur,hrow⟩:=hR.out
      have HCUR:=HidS.mk hcur
      have hk : i < cur.length:=by rw [hcur.1,HM.out]; exact hlt
      have hset:=HidS.mk (hrow.set hk hgv)
      obtain ⟨cz,hcz⟩ : ∃z,cur[i]? = some z:=⟨_,List.getElem?_eq_getElem hk⟩
      obtain ⟨s3,a3,l3,k3,d1,d2,d3,d4,-⟩:=hrow.cell hcz
      have HS:=HidS.mk (HCUR.out.set HAA.out)
      clear ha hM h2 h3 hget hgv hcur hrow hcz hR
      go_wp2
      go_roundw
      case rel=>exact ⟨i + 1,by omega,by simp,⟨_,HS.out,hset.out.1⟩,bset (bset hBr (Nat.le_refl _) _ _) (Nat.le_refl _) _ _⟩
      case measure=>simp [intOf]; omega
     ·obtain rfl : m = i:=by omega
      have hR : HidS (∃cur,cur = (cellsC c ck).map (coef x)/\RowAt wr w4.heap.size cur):=by
       obtain ⟨cur,h1,h2⟩:=hR.out
       exact ⟨cur,h1.done HM.out,h2⟩
      have hBB:=nx hb2 (nx hB4 hBr)
      go_wp2
      refine leaves_cons (f:=101) (args:=#[]) sI (by simp [go_sem]) ?_
      refine (idle_ve _).mono ?_
      rintro e u' w'' ⟨rfl,rfl,rfl⟩
      obtain ⟨cur,rfl,h2⟩:=hR.out
      exact ⟨_,results_tmp2 rfl _ _ _,_,rfl,⟨_,_,_,rfl,⟨_,m,m,rfl,by rw [List.length_map,HM.out],Nat.le_refl _,by omega,fun _=>⟨_,rfl,h2⟩⟩⟩,hBB⟩
theorem ImgD.set {wm w : World} {b n mc q : Nat} {mo : Option Addr} {m : Mp} {T : TypeId} {cs : Array Value} (h : ImgD wm w b mo n mc m) (hq : Blk w q T cs) (hT : T ∉ [tImgs]) (i : Nat) (u : Value) : ImgD wm (w.setCell ⟨q,i,none⟩ u) b mo n mc m:=by
 obtain ⟨g,F,h1,h2,h3⟩:=h
 refine ⟨g,F,TE.setCell hq hT i u _ _ _ _ List.mem_cons_self h1,h2.setCell (fun e=>?_) u,h3⟩
 have e : g = q:=e
 subst e
 obtain ⟨D,⟨es,clock,e1,e2⟩,-⟩:=h2
 unfold Blk at hq
 rw [hq] at e1
 cases e1
theorem own_te {α : Type} {e : El α} {w w' : World} {base : Nat} {v : Value} {xs : List α} (ho : LsO e w base v xs) (hg : w.grownBy w' v.ownBlock) {ts : List TypeId} (hT : e.T ∉ ts) : TE ts w w':=by
 obtain ⟨L,l1,-⟩:=ho
 exact TE.grown l1 hT hg
def matM (a b : Cx) (m : Mp) (k : Int) : List (List Int):=(cellsC a k).map fun i=>(cellsC b k).map (coef (imgM m i))
def MxT (a b : Cx) (m : Mp) (k : Int) (ok : Bool) (w : World) (v : Value) : Prop:=∃R C o n q,v = .tuple #[.agg #[.int .i64 R,.int .i64 C,.slice o n q],.int .i64 (if ok then 0 else 290)]/\(ok = true->MatV w (.agg #[.int .i64 R,.int .i64 C,.slice o n q]) (cellsC a k).length (cellsC b k).length (matM a b m k))
theorem imgM_hom {a b : Cx} {m : Mp} (h : ValR a b m) {f : Cel} (hva : ValX a) (hf : f ∈ a) : (dimC b (imgM m f.1)).2 = 0/\(imgM m f.1 ≠ []->(dimC b (imgM m f.1)).1 = f.2.1)/\∃g ∈ m,imgM m f.1 = g.2:=by
 obtain ⟨i,hi,rfl⟩:=List.getElem_of_mem hf
 have him : i < m.length:=by rw [h.len]; exact hi
 have h1:=h.cel i hi _ _ (List.getElem?_eq_getElem hi) (List.getElem?_eq_getElem him)
 have h2 : imgM m (a[i]).1 = (m[i]'him).2:=by
  unfold imgM
  rw [<-h1.1,findM_srt h.prp.srt (List.getElem_mem him)]
 rw [h2]
 exact ⟨h1.2.1,h1.2.2,_,List.getElem_mem him,rfl⟩
set_option maxHeartbeats 16000000 in
set_option maxRecDepth 20000 in
theorem imatrix_any (va vb vm : Value) (a b : Cx) (m : Mp) (k : Int) (w : World) (ha : CpxV w va a) (hb : CpxV w vb b) (hm : MapV w vm m) (hok : VlOk a b m) :
  Calls Tryz.prog 14 #[va,vb,vm,.int .i64 k] w fun e w'=>∃ok : Bool,(ok = true ↔ ValR a b m)/\(∃r,e = .returned r/\MxT a b m k ok w' r)/\Below w.heap.size w w':=by
 obtain ⟨ao,ac,rfl,-,hc1⟩:=id ha.shape
 obtain ⟨bo,bc,rfl,-,hc2⟩:=id hb.shape
 obtain ⟨mo,mc,rfl,-,hc3⟩:=id hm.shape
 obtain ⟨na,hna⟩ : ∃n,a.length = n:=⟨_,rfl⟩
 obtain ⟨n,hmn⟩ : ∃n,m.length = n:=⟨_,rfl⟩
 obtain ⟨bl,hbl⟩ : ∃n,b.length = n:=⟨_,rfl⟩
 rw [hna] at ha ⊢
 rw [hmn] at hm ⊢
 rw [hbl] at hb ⊢
 have HA:=HidS.mk ha
 have HB:=HidS.mk hb
 have HM:=HidS.mk hm
 have HMN:=HidS.mk hmn
 have HOK:=HidS.mk hok
 clear ha hb hm hna hmn hbl hok
 go_enter_defers Tryz.func14,Tryz.ntmps14
 go_upto_region 2 with (fail)
 refine wp_world ?_
 intro W0 hW0
 obtain ⟨hB0,T0,hs0⟩:=world1 hW0
 have HT0:=HidS.mk T0
 have HA:=HidS.mk (HA.out.below hB0)
 have HB:=HidS.mk (HB.out.below hB0)
 have HM:=HidS.mk (HM.out.below hB0)
 clear hW0 T0
 go_wp2_with fail
 refine (ivalid_any _ _ _ a b m W0 HA.out HB.out HM.out HOK.out).mono ?_
 rintro e w2 ⟨ok,rfl,hok,hb2⟩
 have HO:=HidS.mk hok
 clear hok
 cases ok
 ·have TT:=HT0.out.below hb2
  obtain ⟨c1,c2,c3,c4,c5,c6⟩:=TT.three
  have hBB:=nx hB0 hb2
  go_wp2
  refine leaves_cons (f:=51) (args:=#[]) sI (by simp [go_sem]) ?_
  refine (idle_im _).mono ?_
  rintro e u' w'' ⟨rfl,rfl,rfl⟩
  exact ⟨_,results_mt rfl _ rfl (TT.put3 _ _ _) rfl,false,HO.out,⟨_,rfl,_,_,_,_,_,rfl,fun h=>(by cases h)⟩,bset (bset (bset hBB (Nat.le_refl _) 0 _) (Nat.le_refl _) 1 _) (Nat.le_refl _) 2 _⟩
 ·have HR:=HidS.mk (HO.out.1 rfl)
  have HMP : HidS (MpOk m):=⟨⟨HR.out.prp.srt,fun g hg=>by
   obtain ⟨i,hi,rfl⟩:=List.getElem_of_mem hg
   have hia : i < a.length:=by rw [<-HR.out.len]; exact hi
   rw [(HR.out.cel i hia _ _ (List.getElem?_eq_getElem hia) (List.getElem?_eq_getElem hi)).1]
   exact HOK.out.ia _ (List.getElem_mem hia),HOK.out.im,by rw [HR.out.len]; exact HOK.out.la⟩⟩
  clear HO
  go_upto_region 5 with (fail)
  refine wp_world ?_
  intro Wa hWa
  obtain ⟨hBa,T9,hsa⟩:=world1 hWa
  have HIa : HidS (ImgS W0 Wa w2.heap.size mo n mc m):=⟨.inl T9⟩
  obtain ⟨p,hp⟩ : ∃p,w2.heap.size = p:=⟨_,rfl⟩
  have hpl : W0.heap.size<=p:=by have:=hb2.size; omega
  have hBa0:=nx hb2 hBa
  rw [hp] at HIa ⊢
  clear hWa T9 hBa hsa hp hb2
  go_wp2_with fail
  refine (pcells_any _ b k Wa (HB.out.below hBa0) HOK.out.lb).mono ?_
  rintro e w3 ⟨u3,rfl,h3,hb3⟩
  obtain ⟨jo,jq,rfl⟩:=LsO.shape h3
  obtain ⟨C,hC⟩ : ∃C,(cellsC b k).length = C:=⟨_,rfl⟩
  rw [hC] at h3 ⊢
  have HC:=HidS.mk hC
  have hB3:=nx hBa0 hb3
  have HI3:=HidS.mk (HIa.out.below hb3)
  clear h3 hC hb3 HIa
  go_upto_region 6 with (fail)
  refine wp_world ?_
  intro Wb hWb
  obtain ⟨hBb,T4,hsb⟩:=world1 hWb
  have hq0:=hB3.size
  obtain ⟨q,hq⟩ : ∃q,w3.heap.size = q:=⟨_,rfl⟩
  have hBb0:=nx hB3 hBb
  have HIb:=HidS.mk (HI3.out.below hBb)
  rw [hq] at T4 hsb ⊢
  have hqW : W0.heap.size<=q:=by omega
  have HTb:=HidS.mk T4
  clear hWb T4 HI3 hBb hq hq0 hB3
  go_wp2_with fail
  refine (pcells_any _ a k Wb (HA.out.below hBb0) HOK.out.la).mono ?_
  rintro e w4 ⟨u4,rfl,h4,hb4⟩
  obtain ⟨io,iq,rfl⟩:=LsO.shape h4
  obtain ⟨R,hR⟩ : ∃R,(cellsC a k).length = R:=⟨_,rfl⟩
  have hR6 : R<=1000000:=by have h1:=cells_len (c:=a) (k:=k); have:=HOK.out.la; omega
  rw [hR] at h4 ⊢
  have HRR:=HidS.mk hR
  have HID:=HidS.mk h4.vs
  have hq4 : q < w4.heap.size:=by have:=hb4.size; omega
  have hB4:=nx hBb0 hb4
  have hst : HidS (ImgS W0 w4 p mo n mc m/\TE [tInt] w4 w4/\Blk w4 q 41 #[.int .i64 0,.int .i64 C,.slice none 0 0]/\RwO w4 w4.heap.size (.slice none 0 0) ((matM a b m k).take 0)):=⟨HIb.out.below hb4,TE.refl _ _,HTb.out.below hb4,LsO.nil _ _ _⟩
  clear h4 hR hb4 hBb0 hBa0 HIb HTb hsb
  go_wp2
  go_loopw [13,14,15,16,17,36] (fun _ _ _ _ _ iv wr=>∃(i : Nat) (v0 : Value),i<=R/\iv = .int .i64 i/\HidS (ImgS W0 wr p mo n mc m/\TE [tInt] w4 wr/\Blk wr q 41 #[.int .i64 0,.int .i64 C,v0]/\RwO wr w4.heap.size v0 ((matM a b m k).take i))/\Below W0.heap.size W0 wr/\w4.heap.size<=wr.heap.size) (fun _ _ _ _ _ iv _=>R - (intOf iv).toNat)
  case atStart=>exact ⟨0,_,by omega,rfl,hst,hB4,Nat.le_refl _⟩
  case round=>
   clear hst hB4
   obtain ⟨i,v0,hi,rfl,hS,hB,hsz⟩:=hrel
   obtain ⟨vo,vc,rfl⟩:=LsO.shape hS.out.2.2.2
   have hln : ((matM a b m k).take i).length = i:=by
    rw [List.length_take]
    unfold matM
    rw [List.length_map,HRR.out]
    omega
   rw [hln] at hS
   have HLN:=HidS.mk hln
   clear hln
   by_cases hlt : i < R
   ·obtain ⟨id0,hid⟩:=lt_get HRR.out hlt
    have hdc : HidS (I64 id0/\(dimC b (imgM m id0)).2 = 0/\(imgM m id0 ≠ []->(dimC b (imgM m id0)).1 = k)/\ValC (imgM m id0)/\(∀z ∈ imgM m id0,I64 z.1)/\(imgM m id0).length<=900000/\SmN (nrm (imgM m id0))):=⟨by
     obtain ⟨f,h1,h2,h3⟩:=cellsC_mem.1 (List.mem_of_getElem? hid)
     obtain ⟨e1,e2,g,e3,e4⟩:=imgM_hom HR.out HOK.out.va h1
     rw [<-h2,<-h3]
     exact ⟨HOK.out.ia f h1,e1,e2,imgM_val HR.out.prp _,img_ids HOK.out.im _,by rw [e4]; exact HOK.out.lm g e3,by rw [e4]; exact HOK.out.sn g e3⟩⟩
    have HRW : HidS ((matM a b m k)[i]? = some ((cellsC b k).map (coef (imgM m id0)))):=⟨by
     unfold matM
     rw [List.getElem?_map,hid]
     rfl⟩
    obtain ⟨b2,rfl,hb2i,g1⟩:=(LsV.te HID.out hS.out.2.1).int hid
    clear hid
    go_wp2_with fail
    refine (imgof_any p mo n mc m id0 W0 wr hS.out.1 HM.out (TE.below hB (Nat.le_refl _)) HMP.out.srt HMP.out.ids HMP.out.len hdc.out.1).mono ?_
    rintro e w5 ⟨_,rfl,⟨o5,n5,k5,rfl,h5⟩,hD5,hg5⟩
    have hB5 : Below W0.heap.size W0 w5:=hB.grown hg5 hB.size (fun g hg=>by cases hg; exact hpl)
    have hT5:=HidS.mk (hS.out.2.2.1.keepG hg5 (fun e=>by
     cases e
     obtain ⟨cs,hcs⟩:=hS.out.1.blk
     have h1:=hS.out.2.2.1
     unfold Blk at h1 hcs
     rw [h1] at hcs
     injection hcs with hcs
     injection hcs with _ hcs
     exact absurd hcs dE))
    have hO5:=HidS.mk (LsO.te hS.out.2.2.2 (hS.out.1.te hg5 dE))
    have hE5:=HidS.mk (hS.out.2.1.trans (hS.out.1.te hg5 dE))
    have hD5:=HidS.mk hD5
    have hs5:=hg5.size
    have H5:=HidS.mk (show ChnV w5 (.slice o5 n5 k5) (imgM m id0) from LsV.below h5 hB5)
    obtain ⟨fl,hfl⟩ : ∃t,(findM m id0).isSome = t:=⟨_,rfl⟩
    rw [hfl]
    clear h5 hfl g1 hS hg5
    go_wp2_with fail
    refine (chvec_any _ _ b k (imgM m id0) w5 (HB.out.below hB5) H5.out HOK.out.vb.srt HOK.out.ib hdc.out.2.2.2.2.1 HOK.out.lb hdc.out.2.2.2.2.2.1 hdc.out.2.2.2.1 hdc.out.2.2.2.2.2.2 hdc.out.2.1 hdc.out.2.2.1).mono ?_
    rintro e w6 ⟨_,rfl,⟨o6,n6,k6,rfl,h6⟩,hb6⟩
    obtain ⟨row,hrow⟩ : ∃z,(cellsC b k).map (coef (imgM m id0)) = z:=⟨_,rfl⟩
    rw [hrow] at h6 HRW
    have hB6:=nx hB5 hb6
    have T6:=hT5.out.below hb6
    have hal:=(Below.refl w6.heap.size w6).alloc (Nat.le_refl _) (.cells #[.slice o6 n6 k6] tRw)
    have HN:=HidS.mk (LsO.lits (e:=rowE) (base:=0) (Blk.new w6 tRw #[.slice o6 n6 k6]) (Nat.zero_le _) [([.slice o6 n6 k6],row)] rfl (List.forall_mem_cons.2 ⟨⟨_,rfl,VecV.below h6 hal⟩,fun _ h=>by cases h⟩) sI).vs
    have hO6:=HidS.mk (LsO.below (hO5.out.below hb6) hal)
    have HD6:=HidS.mk ((hD5.out.below hb6).below hal)
    have HE6:=HidS.mk ((hE5.out.trans (TE.below hb6 (Nat.le_refl _))).trans (TE.below hal (Nat.le_refl _)))
    have HT6:=HidS.mk (T6.below hal)
    have hBA:=nx hB6 hal
    have hs6:=hb6.size
    obtain ⟨c1,c2,c3,c4,c5,c6⟩:=T6.three
    clear h6 hrow hal hD5 hE5 hO5 hT5 T6 c1 c2 c4 c5 c6
    go_wp2_with (at_builtin; go_loud (refine appRw rfl _ _ rfl w4.heap.size _ ((matM a b m k).take i) rfl hO6.out _ [row] rfl HN.out (by rw [HLN.out]; show i + 1<=_; omega) (by simp; omega) ?_; intro v8 w8 hown8 hgr8 hte8; obtain ⟨o8,m8,q8,rfl⟩ : ∃o m q,v8 = .slice o m q:=(LsO.shape hown8).elim fun o h=>h.elim fun q h=>⟨o,_,q,h⟩; have T8 : Blk w8 q 41 #[.int .i64 0,.int .i64 C,.slice vo i vc]:=(hgr8.block _ HT6.out.lt (fun e=>by have:=hO6.out.own _ e.symm; omega)).trans HT6.out; obtain ⟨c1,c2,c3,c4,c5,c6⟩:=T8.three))
    have hB8 : Below W0.heap.size W0 w8:=hBA.grown hgr8 hBA.size (fun g hg=>by have:=hO6.out.own g hg; omega)
    have hgs:=hgr8.size
    have HS9 : HidS (ImgS W0 (w8.setCell ⟨q,2,none⟩ (.slice o8 m8 q8)) p mo n mc m/\TE [tInt] w4 (w8.setCell ⟨q,2,none⟩ (.slice o8 m8 q8))/\Blk (w8.setCell ⟨q,2,none⟩ (.slice o8 m8 q8)) q 41 #[.int .i64 0,.int .i64 C,.slice o8 m8 q8]/\RwO (w8.setCell ⟨q,2,none⟩ (.slice o8 m8 q8)) w4.heap.size (.slice o8 m8 q8) ((matM a b m k).take (i + 1))):=⟨.inr ((HD6.out.own hO6.out dE hgr8).set T8 dE 2 _),(HE6.out.trans (own_te hO6.out hgr8 dE)).trans (TE.setCell T8 dE 2 _),by simpa using T8.set_ 2 (.slice o8 m8 q8),by rw [take_sn HRW.out]; exact LsO.te hown8 (TE.setCell T8 dE 2 _)⟩
    clear hown8 hgr8 hte8 T8
    go_roundw
    case rel=>exact ⟨i + 1,_,by omega,by simp,HS9,bset hB8 hqW 2 _,by simp at hgs ⊢; omega⟩
    case measure=>simp [intOf]; omega
   ·obtain rfl : R = i:=by omega
    rw [take_all (by unfold matM; rw [List.length_map,HRR.out])] at hS
    obtain ⟨c1,c2,c3,c4,c5,c6⟩:=hS.out.2.2.1.three
    go_upto_region 14 with (fail)
    refine wp_world ?_
    intro Wz hWz
    have hTz : Blk Wz q 41 #[.int .i64 R,.int .i64 C,.slice vo R vc]:=by rw [hWz.out]; simpa using hS.out.2.2.1.set_ 0 (.int .i64 R)
    have hBz : Below W0.heap.size W0 Wz:=by rw [hWz.out]; exact bset hB hqW 0 _
    have hOz : HidS (RwO Wz w4.heap.size (.slice vo R vc) (matM a b m k)):=⟨by rw [hWz.out]; exact LsO.te hS.out.2.2.2 (TE.setCell hS.out.2.2.1 dE 0 _)⟩
    have TT:=HT0.out.below hBz
    have hBB:=nx hB0 hBz
    clear c1 c2 c3 c4 c5 c6 hWz hS
    obtain ⟨c1,c2,c3,c4,c5,c6⟩:=hTz.three
    obtain ⟨d1,d2,d3,d4,d5,d6⟩:=TT.three
    go_wp2
    refine leaves_cons (f:=51) (args:=#[]) sI (by simp [go_sem]) ?_
    refine (idle_im _).mono ?_
    rintro e u' w'' ⟨rfl,rfl,rfl⟩
    refine ⟨_,results_mt rfl _ rfl (TT.put3 _ _ _) rfl,true,⟨fun _=>HR.out,fun _=>rfl⟩,⟨_,rfl,_,_,_,_,_,rfl,fun _=>?_⟩,bset (bset (bset hBB (Nat.le_refl _) 0 _) (Nat.le_refl _) 1 _) (Nat.le_refl _) 2 _⟩
    rw [HRR.out,HC.out]
    exact ⟨_,rfl,(LsV.te hOz.out.vs (TE.set3 TT dE _ _ _)).rows⟩
theorem ImgS.own {α : Type} {e : El α} {wm w w' : World} {b n mc base : Nat} {mo : Option Addr} {m : Mp} {v : Value} {xs : List α} (h : ImgS wm w b mo n mc m) (ho : LsO e w base v xs) (hT : e.T ∉ [tImgs]) (hg : w.grownBy w' v.ownBlock) : ImgS wm w' b mo n mc m:=by
 rcases h with h | h
 ·exact .inl (own_te ho hg hT _ _ _ _ List.mem_cons_self h)
 ·exact .inr (h.own ho hT hg)
theorem grown_own {α : Type} {e : El α} {W w w' : World} {b base : Nat} {v : Value} {xs : List α} (hG : W.grownBy w (some b)) (ho : LsO e w base v xs) (hb : W.heap.size<=base) (hg : w.grownBy w' v.ownBlock) : W.grownBy w' (some b):=by
 rcases hov : v.ownBlock with _ | g0
 ·rw [hov] at hg
  exact hG.trans ⟨hg.os,hg.tape,hg.output,hg.size,fun k hk _=>hg.block k hk sI⟩
 ·rw [hov] at hg
  exact grown_new hG hg (Nat.le_trans hb (ho.own g0 hov).1)
def getI (m : Mp) (i : Nat) : Int × Ch:=m.getD i (0,[])
theorem getI_some {m : Mp} {i : Nat} {f : Int × Ch} (h : m[i]? = some f) : getI m i = f:=by
 unfold getI
 rw [List.getD_eq_getElem?_getD,h]
 rfl
theorem bldE_com (m n : Mp) : ∀k,k<=m.length->bldE (fun i=>apE n (getI m i).2) k = if (m.take k).all (fun f=>hasB n f.2) then 0 else 290:=by
 intro k
 induction k with
 | zero=>intro _; rfl
 | succ k ih=>
  intro hk
  have hf : m[k]? = some m[k]:=List.getElem?_eq_getElem hk
  unfold bldE
  rw [ih oM,getI_some hf,take_sn hf,List.all_append,List.all_cons,List.all_nil,Bool.and_true]
  unfold apE
  cases (m.take k).all (fun f=>hasB n f.2) <;> simp
theorem bldM_com {m n : Mp} (h : coB m n = true) : bldM (fun i=>((getI m i).1,apC n (getI m i).2)) m.length = comM m n:=by
 unfold coB at h
 unfold bldM comM
 refine List.ext_getElem? fun i=>?_
 rw [List.getElem?_map,List.getElem?_map]
 rcases Nat.lt_or_ge i m.length with hi | hi
 ·rw [List.getElem?_range hi,List.getElem?_eq_getElem hi]
  have h1:=List.all_eq_true.1 h _ (List.getElem_mem hi)
  simp only [Option.map_some,getI_some (List.getElem?_eq_getElem hi)]
  unfold apC
  rw [h1]
  rfl
 ·rw [List.getElem?_eq_none (by simpa using hi),List.getElem?_eq_none hi]
  rfl
set_option maxHeartbeats 16000000 in
set_option maxRecDepth 20000 in
theorem icompose_any (v u : Value) (m n : Mp) (w : World) (hm : MapV w v m) (hn : MapV w u n) (hM : MpOk n) (hl : m.length<=1000000) (hix : ∀f ∈ m,∀g ∈ f.2,I64 g.1) (hA : ∀f ∈ m,ActOk (imgM n) f.2/\lenA (imgM n) f.2<=900000) :
  Calls Tryz.prog 24 #[v,u] w fun e w'=>∃r,e = .returned r/\CoT m n w' r/\Below w.heap.size w w':=by
 obtain ⟨ao,ac,rfl,-,-⟩:=id hm.shape
 obtain ⟨uo,uc,rfl,-,-⟩:=id hn.shape
 obtain ⟨lm,hlm⟩ : ∃n,m.length = n:=⟨_,rfl⟩
 obtain ⟨ln,hln⟩ : ∃t,n.length = t:=⟨_,rfl⟩
 rw [hlm] at hm hl ⊢
 rw [hln] at hn ⊢
 have HM:=HidS.mk hm
 have HNN:=HidS.mk hn
 have HLM:=HidS.mk hlm
 have HOK:=HidS.mk hM
 have HIX:=HidS.mk hix
 have HA:=HidS.mk hA
 have hmf : ∀(fn : Fn) (first cap : Array Value) (w : World),(Instr.makeFunc fn first cap).run Tryz.prog w = .ok (.func fn first cap) w:=fun _ _ _ _=>rfl
 clear hm hn hlm hln hM hix hA
 go_enter_defers Tryz.func24,Tryz.ntmps24
 go_upto_region 3 with (fail)
 refine wp_world ?_
 intro W hW
 obtain ⟨hB,T1,T2,T3,hs⟩:=world3 hW
 have hc2 : W.cell? ⟨w.heap.size,0,none⟩ = some (.slice ao lm ac):=by simpa using T1.cell 0
 have hc6 : W.cell? ⟨w.heap.size + 1 + 1,0,none⟩ = some (.pointer (some ⟨w.heap.size + 1,0,none⟩)):=by simpa using T3.cell 0
 have HC2:=HidS.mk hc2
 have HC6:=HidS.mk hc6
 have HT2:=HidS.mk T2
 have HMW:=HidS.mk (HM.out.below hB)
 have HNW:=HidS.mk (HNN.out.below hB)
 obtain ⟨p,hp⟩ : ∃p,w.heap.size = p:=⟨_,rfl⟩
 have hpW : p + 1 + 1 < W.heap.size:=by omega
 rw [hp] at HC2 HC6 HT2 hc2 hc6
 have HBL:=HidS.mk (build_any 69 #[.pointer (some ⟨p + 1 + 1,0,none⟩),.pointer (some ⟨p,0,none⟩)] lm W.heap.size (fun i=>((getI m i).1,apC n (getI m i).2)) (fun i=>apE n (getI m i).2) (fun wr=>ImgS W wr (p + 1) uo ln uc n/\W.grownBy wr (some (p + 1))/\W.heap.size<=wr.heap.size) W (fun args w=>rfl) ⟨.inl HT2.out,grown_of_below (Below.refl _ _) _,Nat.le_refl _⟩
  ⟨fun {_ _ _ _} h1 h2 h3=>⟨h1.1.own h2 dE h3,grown_own h1.2.1 h2 (Nat.le_refl _) h3,Nat.le_trans h1.2.2 h3.size⟩,fun {_ _} h1 h2=>⟨h1.1.below h2,h1.2.1.trans (grown_of_below h2 _),Nat.le_trans h1.2.2 h2.size⟩,fun {_} h1=>h1.2.2⟩ hl (fun i hi wr hwr=>by
  obtain ⟨f,hf⟩:=lt_get HLM.out hi
  have hte : TE (imgE.T :: imgE.ts) W wr:=te_imgs HT2.out hwr.2.1 dE
  have hfm:=List.mem_of_getElem? hf
  refine (comp2_any (p + 1 + 1) p (p + 1) ao lm ac m uo ln uc n i f hf W wr ((grown_cell hwr.2.1 hpW oM).trans HC6.out) ((grown_cell hwr.2.1 oM oM).trans HC2.out) oM (by have:=hwr.2.2; omega) (LsV.te HMW.out hte) hwr.1 HNW.out hte HOK.out (HIX.out f hfm) (HA.out f hfm).1 (HA.out f hfm).2).mono ?_
  rintro e w' ⟨o,k,q,rfl,h1,h2,h3⟩
  simp only [getI_some hf]
  exact ⟨o,k,q,rfl,h1,⟨h2,hwr.2.1.trans h3,Nat.le_trans hwr.2.2 h3.size⟩,hwr.1.te h3 dE,h3.size⟩))
 have hpB : w.heap.size<=p + 1:=by omega
 have hse : HidS (w.heap.size = p):=⟨hp⟩
 rw [hp] at T1 ⊢
 obtain ⟨c1,c2⟩ : W.cell? ⟨p,0,none⟩ = some (.slice ao lm ac)/\W.frozen? ⟨p,0,none⟩ = false:=⟨by simpa using T1.cell 0,by simpa using T1.frozen 0⟩
 clear hW T1 T2 T3 hc2 hc6 hp
 go_wp2_with fail
 refine HBL.out.mono ?_
 rintro e w6 ⟨_,rfl,⟨o,n',c',rfl,hch⟩,hI6⟩
 have hB6 : Below w.heap.size w w6:=below_box hpB hB hI6.2.1
 have HCH:=HidS.mk hch
 clear hch hI6 c1 c2
 go_wp2
 refine leaves_cons (f:=68) (args:=#[]) sI (by simp [go_sem]) ?_
 refine (idle_ic _).mono ?_
 rintro e u' w'' ⟨rfl,rfl,rfl⟩
 have hE : bldE (fun i=>apE n (getI m i).2) lm = coE m n:=by
  rw [bldE_com m n lm (by rw [HLM.out]; exact Nat.le_refl _),take_all HLM.out]
  rfl
 have hres:=HCH.out.vs
 rw [hE] at hres ⊢
 refine ⟨_,results_tmp2 rfl _ _ _,_,rfl,⟨_,_,_,rfl,?_⟩,hB6⟩
 unfold coC
 unfold coE at hres
 rcases hcb : coB m n with _ | _
 ·rw [hcb] at hres
  exact hres
 ·rw [hcb] at hres
  rw [if_pos rfl,<-bldM_com hcb,HLM.out]
  exact hres
def i64B (i : Int) : Bool:=decide (-9223372036854775808<=i/\i<=9223372036854775807)
theorem i64B_ok {i : Int} (h : i64B i = true) : I64 i:=by
 unfold i64B at h
 unfold I64
 exact of_decide_eq_true h
def smB (n : Nat) : Bool:=decide (n < 2 ^ 20)
theorem smB_ok {n : Nat} (h : smB n = true) : SmN n:=two_pow_lim (e:=20) (of_decide_eq_true h) dE
def actB (F : Int->Ch) (x : Ch) : Bool:=smB (nrmA F x) && x.all (fun f=>smB f.2.natAbs && smB (nrm (F f.1))) && decide (lenA F x<=900)
theorem actB_ok {F : Int->Ch} {x : Ch} (h : actB F x = true) : ActOk F x/\lenA F x<=900000:=by
 unfold actB at h
 simp only [Bool.and_eq_true,List.all_eq_true,decide_eq_true_eq] at h
 obtain ⟨⟨h1,h2⟩,h3⟩:=h
 exact ⟨⟨smB_ok h1,fun f hf=>⟨smB_ok (h2 f hf).1,smB_ok (h2 f hf).2⟩,by omega⟩,by omega⟩
def mpB (n : Mp) : Bool:=decide (n.Pairwise fun a b=>a.1 < b.1) && n.all (fun f=>i64B f.1 && f.2.all fun g=>i64B g.1) && decide (n.length<=900)
theorem mpB_ok {n : Mp} (h : mpB n = true) : MpOk n:=by
 unfold mpB at h
 simp only [Bool.and_eq_true,List.all_eq_true,decide_eq_true_eq] at h
 obtain ⟨⟨h1,h2⟩,h3⟩:=h
 exact ⟨h1,fun f hf=>i64B_ok (h2 f hf).1,fun f hf g hg=>i64B_ok ((h2 f hf).2 g hg),by omega⟩
def vlB (a b : Cx) (m : Mp) : Bool:=valXB a && valXB b && a.all (fun f=>i64B f.1) && b.all (fun f=>i64B f.1) && m.all (fun g=>(g.2.all fun p=>i64B p.1) && decide (g.2.length<=900) && smB (nrm g.2) && actB (bOf b) g.2) && a.all (fun f=>actB (imgM m) f.2.2) && decide (a.length<=900) && decide (b.length<=900)
theorem vlB_ok {a b : Cx} {m : Mp} (h : vlB a b m = true) : VlOk a b m:=by
 unfold vlB at h
 simp only [Bool.and_eq_true,List.all_eq_true,decide_eq_true_eq] at h
 obtain ⟨⟨⟨⟨⟨⟨⟨h1,h2⟩,h3⟩,h4⟩,h5⟩,h6⟩,h7⟩,h8⟩:=h
 exact ⟨valXB_ok h1,valXB_ok h2,fun f hf=>i64B_ok (h3 f hf),fun f hf=>i64B_ok (h4 f hf),fun g hg p hp=>i64B_ok ((h5 g hg).1.1.1 p hp),by omega,by omega,fun g hg=>by have:=(h5 g hg).1.1.2; omega,fun g hg=>smB_ok (h5 g hg).1.2,fun g hg=>actB_ok (h5 g hg).2,fun f hf=>actB_ok (h6 f hf)⟩
def celB (b : Cx) (f : Cel) (g : Int × Ch) : Bool:=decide (g.1 = f.1) && decide ((dimC b g.2).2 = 0) && (decide (g.2 = []) || decide ((dimC b g.2).1 = f.2.1))
def comB (b : Cx) (m : Mp) (f : Cel) (g : Int × Ch) : Bool:=decide (edC b g.2 = apC m f.2.2)
def valRB (a b : Cx) (m : Mp) : Bool:=decide (m.Pairwise fun a b=>a.1 < b.1) && m.all (fun g=>decide (g.2.Pairwise fun a b=>a.1 < b.1) && g.2.all fun p=>decide (p.2 ≠ 0)) && decide (m.length = a.length) && (a.zip m).all fun p=>celB b p.1 p.2 && comB b m p.1 p.2
theorem valRB_ok {a b : Cx} {m : Mp} (h : valRB a b m = true) : ValR a b m:=by
 unfold valRB at h
 simp only [Bool.and_eq_true,List.all_eq_true,decide_eq_true_eq] at h
 obtain ⟨⟨⟨h1,h2⟩,h3⟩,h4⟩:=h
 have key : ∀j f g,a[j]? = some f->m[j]? = some g->(f,g) ∈ a.zip m:=fun j f g hf hg=>List.mem_of_getElem? (i:=j) (by rw [List.getElem?_zip_eq_some]; exact ⟨hf,hg⟩)
 refine ⟨⟨h1,fun g hg=>⟨(h2 g hg).1,(h2 g hg).2⟩⟩,h3,fun j _ f g hf hg=>?_,fun j _ f g hf hg=>?_⟩
 ·have h5:=(h4 _ (key j f g hf hg)).1
  unfold celB at h5
  simp only [Bool.and_eq_true,Bool.or_eq_true,decide_eq_true_eq] at h5
  refine ⟨h5.1.1,h5.1.2,fun hne=>?_⟩
  rcases h5.2 with h6 | h6
  ·exact absurd h6 hne
  ·exact h6
 ·have h5:=(h4 _ (key j f g hf hg)).2
  unfold comB at h5
  exact (show edC b g.2 = apC m f.2.2 from of_decide_eq_true h5)
def degM (n : Int) : Mp:=[(1,[(1,1)]),(2,[(2,n)])]
def circleC : Cx:=[(1,0,[]),(2,1,[])]
def planeC : Cx:=[(1,0,[]),(2,1,[]),(3,2,[(2,2)])]
def flatM : Mp:=[(1,[(1,1)]),(2,[(2,1)]),(3,[])]
def threeM : Mp:=[(1,[(1,1)]),(2,[(2,3)]),(3,[(3,3)])]
theorem mak_one (i n : Int) (hn : n ≠ 0) : makC [(i,n)] = [(i,n)]:=by
 show insC [] (i,n) = _
 unfold insC
 rw [if_neg hn]
theorem Tryz.fieldCe2 (a b c : Value) (W : World) : (Instr.field 85 (.agg #[a,b,c]) 2).run Tryz.prog W = .ok c W:=by kernel_rfl
theorem degM_one (n : Int) (hn : 0 < n/\n<=100) (w : World) : Calls Tryz.prog 38 #[.int .i64 0,.int .i64 0,.slice (some ⟨w.heap.size,0,none⟩) 2 2] (w.alloc (.cells #[.int .i64 2,.int .i64 n] 2)) fun e w'=>∃u,e = .returned u/\CelV w' u (0,0,[(2,n)])/\Below (w.heap.size + 1) (w.alloc (.cells #[.int .i64 2,.int .i64 n] 2)) w':=by
 have h:=cell_any _ 0 0 [(2,n)] [(2,n)] _ (I64V.newS w [2,n] (by simp; omega) sI) (mak_one 2 n oM) (two_pow_lim (e:=10) (by simp [nrm]; omega) dE) sI
 simpa using h
set_option maxHeartbeats 8000000 in
set_option maxRecDepth 20000 in
theorem degree_any (n : Int) (w : World) (hn : 0 < n/\n<=100) :
  Calls Tryz.prog 37 #[.int .i64 n] w fun e w'=>∃u,e = .returned u/\MapO w' w.heap.size u (degM n)/\Below w.heap.size w w':=by
 have hfl:=Tryz.fieldCe2
 go_enter Tryz.func37,Tryz.ntmps37
 go_wp2_with fail
 refine (cell_any _ 0 0 [(1,1)] [(1,1)] _ (I64V.newS w [1,1] dE dE) dE (two_pow_lim (e:=10) dE dE) dE).mono ?_
 rintro e w2 ⟨_,rfl,⟨o1,n1,k1,rfl,h1⟩,hb2⟩
 have hB2 : Below w.heap.size w w2:=nx ((Below.refl _ _).alloc (Nat.le_refl _) _) hb2
 have H1:=HidS.mk h1
 clear h1 hb2
 go_wp2_with fail
 refine (degM_one n hn w2).mono ?_
 rintro e w3 ⟨_,rfl,⟨o2,n2,k2,rfl,h2⟩,hb3⟩
 have hb3' : Below w2.heap.size w2 w3:=nx ((Below.refl _ _).alloc (Nat.le_refl _) _) (by simpa using hb3)
 have hB3:=nx hB2 hb3'
 have hal:=(Below.refl w3.heap.size w3).alloc (Nat.le_refl _) (.cells #[.int .i64 1,.slice o1 n1 k1,.int .i64 2,.slice o2 n2 k2] tIm)
 have hsz:=hB3.size
 have HN:=HidS.mk (LsO.lits (e:=imgE) (base:=w.heap.size) (Blk.new w3 tIm #[.int .i64 1,.slice o1 n1 k1,.int .i64 2,.slice o2 n2 k2]) hsz [([.int .i64 1,.slice o1 n1 k1],(1,[(1,1)])),([.int .i64 2,.slice o2 n2 k2],(2,[(2,n)]))] rfl (List.forall_mem_cons.2 ⟨imgEE (f:=(1,[(1,1)])) (LsV.below (LsV.below H1.out hb3') hal),List.forall_mem_cons.2 ⟨imgEE (f:=(2,[(2,n)])) (LsV.below h2 hal),fun _ h=>by cases h⟩⟩) sI)
 have hBB:=nx hB3 hal
 clear h2 hb3 hal
 go_wp2
 go_ret
 exact ⟨_,rfl,HN.out,hBB⟩
end Go.Proofs.YtjdemlfceaikgaaGreat
