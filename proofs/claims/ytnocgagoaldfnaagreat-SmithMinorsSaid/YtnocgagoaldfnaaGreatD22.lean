/- smith: band.exchange. -/
import Derived.Test.YtnocgagoaldfnaaGreatD21
set_option linter.unusedVariables false
set_option linter.unusedSimpArgs false
set_option linter.unusedSectionVars false
namespace Go.Proofs.YtnocgagoaldfnaaGreat
open Go.RowKit
structure OnlyZ (Z : Nat->Prop) (w w' : World) : Prop where
 bel : Below 0 w w'
 lext : LExt w w'
 old : ∀k,k < w.heap.size->¬ Z k->w'.heap[k]? = w.heap[k]?
theorem OnlyZ.refl (Z : Nat->Prop) (w : World) : OnlyZ Z w w:=⟨Below.refl _ _,LExt.refl _,fun _ _ _=>rfl⟩
theorem OnlyZ.of {w w' : World} (Z : Nat->Prop) (h : Below w.heap.size w w') : OnlyZ Z w w':=⟨h.mono (Nat.zero_le _),lx h,fun k hk _=>h.block k hk⟩
theorem OnlyZ.trans {Z : Nat->Prop} {a b c : World} (h : OnlyZ Z a b) (k : OnlyZ Z b c) : OnlyZ Z a c:=
 ⟨h.bel.trans k.bel,h.lext.trans k.lext,fun i hi hn=>(k.old i (Nat.lt_of_lt_of_le hi h.bel.size) hn).trans (h.old i hi hn)⟩
theorem OnlyZ.mono {Z Z' : Nat->Prop} {w w' : World} (h : OnlyZ Z w w') (hs : ∀k,k < w.heap.size->Z k->Z' k) : OnlyZ Z' w w':=⟨h.bel,h.lext,fun k hk hn=>h.old k hk (fun hh=>hn (hs k hk hh))⟩
theorem OnlyZ.blk {Z : Nat->Prop} {w w' : World} {b : Nat} {T : TypeId} {cs : Array Value} (h : OnlyZ Z w w') (hb : Blk w b T cs) (hz : ¬ Z b) : Blk w' b T cs:=(h.old b hb.lt hz).trans hb
theorem RowsO.gone {w w' : World} {base : Nat} {A : Value} {C : Nat} {bs : List Nat} {M : List (List Int)} (h : RowsO w base A C bs M) {g : Nat} {cur : Array Value} (hg : Blk w g tR cur) (hx : LExt w w') (ho : ∀k,k < w.heap.size->k ≠ g->w'.heap[k]? = w.heap[k]?) (hne : A.ownBlock ≠ some g) :
  RowsO w' base A C bs M:=by
 refine ⟨⟨h.own.1,?_⟩,h.len,fun k b r h1 h2=>by
  obtain ⟨e1,e2,e3⟩:=h.row k b r h1 h2
  refine ⟨e1,e2,e3.old (ho b e3.lt ?_) hx⟩
  rintro rfl
  obtain ⟨cs,q1,-⟩:=e3
  have hg' : w.heap[b]? = some (.cells cur tR (0,0)):=hg
  rw [hg'] at q1
  injection q1 with q1
  injection q1 with _ ht
  exact absurd ht dE,h.nodup,h.cb⟩
 rcases h.own.2 with h1 | ⟨g',cap,cur',e1,e2,e3,e4⟩
 ·exact .inl h1
 ·refine .inr ⟨g',cap,cur',e1,e2,?_,e4⟩
  refine (ho g' (Array.getElem?_eq_some_iff.1 e3).1 ?_).trans e3
  rintro rfl
  rw [e1] at hne
  exact hne rfl
theorem RowsO.gblk {w : World} {base g n cap C : Nat} {bs : List Nat} {M : List (List Int)} (h : RowsO w base (.slice (some ⟨g,0,none⟩) n cap) C bs M) : ∃cur,Blk w g tR cur/\n<=cur.size:=by
 rcases h.own.2 with ⟨e,h0⟩ | ⟨g',cap',cur,e,e2,e3,e4,e5,e6,e7⟩
 ·cases e
 ·injection e with e8 e9 e10
  injection e8 with e8
  injection e8 with e8
  subst e8
  subst e9
  exact ⟨cur,e3,by omega⟩
set_option maxHeartbeats 4000000 in
set_option maxRecDepth 20000 in
theorem exchange_any (As At Ai : Value) (n Cs Ct i j : Nat) (bss bst bsi : List Nat) (S T I : Nat->Nat->Int) (w : World) (h : BandV w As At Ai n Cs Ct bss bst bsi S T I) (hi : i < n) (hj : j < n) (hn : n<=1000000) :
  Calls Tryz.prog 135 #[.agg #[As,At,Ai],.int .i64 i,.int .i64 j] w fun e w'=>(∃u,e = .returned u)/\OnlyZ (fun b=>As.ownBlock = some b ∨ At.ownBlock = some b ∨ Ai.ownBlock = some b) w w' ∧
   BandV w' As At Ai n Cs Ct (swpL bss i j) (swpL bst i j) (swpL bsi i j) (swpF S i j) (swpF T i j) (swpF I i j):=by
 obtain ⟨so,sn,sc,rfl,s1,s2,s3,-⟩:=id (RowsO.rows h.s)
 obtain ⟨uo,tn,tc,rfl,t1,t2,t3,-⟩:=id (RowsO.rows h.t)
 obtain ⟨io,in_,ic,rfl,i1,i2,i3,-⟩:=id (RowsO.rows h.i)
 have H0:=HidS.mk h
 obtain ⟨hs,ht,hi_,-,-,-,gst,gsi,gti⟩:=h
 have e1 : n = sn:=by rw [<-s1]; simp [genM]
 have e2 : n = tn:=by rw [<-t1]; simp [genM]
 have e3 : n = in_:=by rw [<-i1]; simp [genM]
 subst e1
 subst e2
 subst e3
 clear s1 t1 i1
 obtain ⟨gs,rfl,-⟩ : ∃g,so = some ⟨g,0,none⟩/\True:=by
  obtain ⟨g,b,e,-⟩:=RowsO.at_ hs (i:=i) (by rw [hs.len]; exact hi)
  exact ⟨g,e,trivial⟩
 obtain ⟨gt,rfl,-⟩ : ∃g,uo = some ⟨g,0,none⟩/\True:=by
  obtain ⟨g,b,e,-⟩:=RowsO.at_ ht (i:=i) (by rw [ht.len]; exact hi)
  exact ⟨g,e,trivial⟩
 obtain ⟨gi,rfl,-⟩ : ∃g,io = some ⟨g,0,none⟩/\True:=by
  obtain ⟨g,b,e,-⟩:=RowsO.at_ hi_ (i:=i) (by rw [hi_.len]; exact hi)
  exact ⟨g,e,trivial⟩
 have nst : gt ≠ gs:=fun hh=>gst gs rfl (by rw [<-hh]; rfl)
 have nsi : gi ≠ gs:=fun hh=>gsi gs rfl (by rw [<-hh]; rfl)
 have nti : gi ≠ gt:=fun hh=>gti gt rfl (by rw [<-hh]; rfl)
 clear gst gsi gti
 go_enter Tryz.func135,Tryz.ntmps135
 go_upto_region 1 with (fail)
 refine wp_world ?_
 intro W0 hW0
 obtain ⟨hB0,bx,hs0⟩:=world1 hW0
 obtain ⟨c1,c2,c3,c4,c5,c6⟩:=bx.three
 have hs:=hs.below hB0
 have ht:=ht.below hB0
 have hi_:=hi_.below hB0
 clear hW0
 go_wp2
 clear c1 c2 c3 c4 c5 c6
 go_loopw [15] (fun mv wr=>∃m : Nat,m<=3/\mv = .int .i64 m/\Below 0 w wr/\LExt w wr/\(∀b,b < w.heap.size->b ≠ gs->b ≠ gt->b ≠ gi->wr.heap[b]? = w.heap[b]?) ∧
  Wri wr (.slice (some ⟨gs,0,none⟩) n sc) n Cs (if m = 0 then bss else swpL bss i j) (if m = 0 then S else swpF S i j)/\Wri wr (.slice (some ⟨gt,0,none⟩) n tc) n Ct (if m<=1 then bst else swpL bst i j) (if m<=1 then T else swpF T i j)/\Wri wr (.slice (some ⟨gi,0,none⟩) n ic) n Ct (if m<=2 then bsi else swpL bsi i j) (if m<=2 then I else swpF I i j)) (fun mv _=>3 - (intOf mv).toNat)
 case atStart=>exact ⟨0,by omega,rfl,hB0.mono (Nat.zero_le _),lx hB0,fun b hb _ _ _=>hB0.block b hb,hs,ht,hi_⟩
 case round=>
  obtain ⟨m,hm,rfl,hb0,hx0,hold,hs,ht,hi_⟩:=hrel
  have hsz:=hb0.size
  have HOLD:=HidS.mk hold
  clear hold
  by_cases hm0 : m = 0
  ·subst hm0
   rw [if_pos rfl,if_pos rfl] at hs
   rw [if_pos oM,if_pos oM] at ht hi_
   obtain ⟨g1,bi,eg1,hg,hbi,hbi2,o1,-⟩:=RowsO.at_ hs (i:=i) (by rw [hs.len]; exact hi)
   obtain rfl : gs = g1:=by injection eg1 with eg1; injection eg1
   obtain ⟨g2,bj,eg2,hg',hbj,hbj2,o2,-⟩:=RowsO.at_ hs (i:=j) (by rw [hs.len]; exact hj)
   obtain rfl : gs = g2:=by injection eg2 with eg2; injection eg2
   clear eg1 eg2
   obtain ⟨cur,hBr,hcz⟩:=RowsO.gblk hs
   have f1:=hBr.frozen i
   have f2:=hBr.frozen j
   have hix:=fun W=>run_index_rr 158 3 #[.slice (some ⟨gs,0,none⟩) n sc,.slice (some ⟨gt,0,none⟩) n tc,.slice (some ⟨gi,0,none⟩) n ic] 0 0 _ W Tryz.underlying158 rfl oM rfl
   have s2 : (wr.setCell ⟨gs,i,none⟩ (.slice (some ⟨bj,0,none⟩) Cs Cs)).frozen? ⟨gs,j,none⟩ = false:=(hBr.set_ i _).frozen j
   obtain ⟨u,s1⟩ : ∃u,(wr.setCell ⟨gs,i,none⟩ (.slice (some ⟨bj,0,none⟩) Cs Cs)).cell? ⟨gs,j,none⟩ = some u:=by
    rw [(hBr.set_ i _).cell j]
    exact ⟨_,Array.getElem?_eq_getElem (by simpa using (by omega : j < cur.size))⟩
   have hsw:=hs.swap hi hj hbi hbj
   have hxx:=hsw.2.trans (lx (dr _))
   have hoo : ∀k,k < wr.heap.size->k ≠ gs->(((wr.setCell ⟨gs,i,none⟩ (.slice (some ⟨bj,0,none⟩) Cs Cs)).setCell ⟨gs,j,none⟩ (.slice (some ⟨bi,0,none⟩) Cs Cs)).drew).heap[k]? = wr.heap[k]?:=fun k _ hk=>set2_old _ _ _ _ _ _ _ hk
   have hbb : Below 0 wr (((wr.setCell ⟨gs,i,none⟩ (.slice (some ⟨bj,0,none⟩) Cs Cs)).setCell ⟨gs,j,none⟩ (.slice (some ⟨bi,0,none⟩) Cs Cs)).drew):=(bset (bset (Below.refl _ _) (Nat.zero_le _) _ _) (Nat.zero_le _) _ _).drew
   have hsw1:=hsw.1.below (dr _)
   have HFX:=HidS.mk (And.intro hxx (And.intro hoo (And.intro hbb hsw1)))
   have HBR:=HidS.mk hBr
   clear hxx hoo hbb hsw1 hsw hBr
   go_upto_region 4 with (fail)
   go_region
   go_wp2
   go_roundw
   case measure=>simp [intOf]
   obtain ⟨hxx,hoo,hbb,hsw1⟩:=HFX.out
   have hBr:=HBR.out
   refine ⟨1,by omega,by simp,hb0.trans hbb,hx0.trans hxx,fun b hb n1 n2 n3=>(hoo b oM n1).trans (HOLD.out b hb n1 n2 n3),?_,?_,?_⟩
   ·rw [if_neg oM,if_neg oM]; exact hsw1
   ·rw [if_pos oM,if_pos oM]; exact RowsO.gone ht hBr hxx hoo (fun hh=>nst (by injection hh))
   ·rw [if_pos oM,if_pos oM]; exact RowsO.gone hi_ hBr hxx hoo (fun hh=>nsi (by injection hh))
  ·by_cases hm1 : m = 1
   ·subst hm1
    rw [if_neg oM,if_neg oM] at hs
    rw [if_pos oM,if_pos oM] at ht hi_
    obtain ⟨g1,bi,eg1,hg,hbi,hbi2,o1,-⟩:=RowsO.at_ ht (i:=i) (by rw [ht.len]; exact hi)
    obtain rfl : gt = g1:=by injection eg1 with eg1; injection eg1
    obtain ⟨g2,bj,eg2,hg',hbj,hbj2,o2,-⟩:=RowsO.at_ ht (i:=j) (by rw [ht.len]; exact hj)
    obtain rfl : gt = g2:=by injection eg2 with eg2; injection eg2
    clear eg1 eg2
    obtain ⟨cur,hBr,hcz⟩:=RowsO.gblk ht
    have f1:=hBr.frozen i
    have f2:=hBr.frozen j
    have hix:=fun W=>run_index_rr 158 3 #[.slice (some ⟨gs,0,none⟩) n sc,.slice (some ⟨gt,0,none⟩) n tc,.slice (some ⟨gi,0,none⟩) n ic] 1 1 _ W Tryz.underlying158 rfl oM rfl
    have s2 : (wr.setCell ⟨gt,i,none⟩ (.slice (some ⟨bj,0,none⟩) Ct Ct)).frozen? ⟨gt,j,none⟩ = false:=(hBr.set_ i _).frozen j
    obtain ⟨u,s1⟩ : ∃u,(wr.setCell ⟨gt,i,none⟩ (.slice (some ⟨bj,0,none⟩) Ct Ct)).cell? ⟨gt,j,none⟩ = some u:=by
     rw [(hBr.set_ i _).cell j]
     exact ⟨_,Array.getElem?_eq_getElem (by simpa using (by omega : j < cur.size))⟩
    have hsw:=ht.swap hi hj hbi hbj
    have hxx:=hsw.2.trans (lx (dr _))
    have hoo : ∀k,k < wr.heap.size->k ≠ gt->(((wr.setCell ⟨gt,i,none⟩ (.slice (some ⟨bj,0,none⟩) Ct Ct)).setCell ⟨gt,j,none⟩ (.slice (some ⟨bi,0,none⟩) Ct Ct)).drew).heap[k]? = wr.heap[k]?:=fun k _ hk=>set2_old _ _ _ _ _ _ _ hk
    have hbb : Below 0 wr (((wr.setCell ⟨gt,i,none⟩ (.slice (some ⟨bj,0,none⟩) Ct Ct)).setCell ⟨gt,j,none⟩ (.slice (some ⟨bi,0,none⟩) Ct Ct)).drew):=(bset (bset (Below.refl _ _) (Nat.zero_le _) _ _) (Nat.zero_le _) _ _).drew
    have hsw1:=hsw.1.below (dr _)
    have HFX:=HidS.mk (And.intro hxx (And.intro hoo (And.intro hbb hsw1)))
    have HBR:=HidS.mk hBr
    clear hxx hoo hbb hsw1 hsw hBr
    go_upto_region 4 with (fail)
    go_region
    go_wp2
    go_roundw
    case measure=>simp [intOf]
    obtain ⟨hxx,hoo,hbb,hsw1⟩:=HFX.out
    have hBr:=HBR.out
    refine ⟨2,by omega,by simp,hb0.trans hbb,hx0.trans hxx,fun b hb n1 n2 n3=>(hoo b oM n2).trans (HOLD.out b hb n1 n2 n3),?_,?_,?_⟩
    ·rw [if_neg oM,if_neg oM]; exact RowsO.gone hs hBr hxx hoo (fun hh=>nst (by injection hh with hh; exact hh.symm))
    ·rw [if_neg oM,if_neg oM]; exact hsw1
    ·rw [if_pos oM,if_pos oM]; exact RowsO.gone hi_ hBr hxx hoo (fun hh=>nti (by injection hh))
   ·by_cases hm2 : m = 2
    ·subst hm2
     rw [if_neg oM,if_neg oM] at hs ht
     rw [if_pos oM,if_pos oM] at hi_
     obtain ⟨g1,bi,eg1,hg,hbi,hbi2,o1,-⟩:=RowsO.at_ hi_ (i:=i) (by rw [hi_.len]; exact hi)
     obtain rfl : gi = g1:=by injection eg1 with eg1; injection eg1
     obtain ⟨g2,bj,eg2,hg',hbj,hbj2,o2,-⟩:=RowsO.at_ hi_ (i:=j) (by rw [hi_.len]; exact hj)
     obtain rfl : gi = g2:=by injection eg2 with eg2; injection eg2
     clear eg1 eg2
     obtain ⟨cur,hBr,hcz⟩:=RowsO.gblk hi_
     have f1:=hBr.frozen i
     have f2:=hBr.frozen j
     have hix:=fun W=>run_index_rr 158 3 #[.slice (some ⟨gs,0,none⟩) n sc,.slice (some ⟨gt,0,none⟩) n tc,.slice (some ⟨gi,0,none⟩) n ic] 2 2 _ W Tryz.underlying158 rfl oM rfl
     have s2 : (wr.setCell ⟨gi,i,none⟩ (.slice (some ⟨bj,0,none⟩) Ct Ct)).frozen? ⟨gi,j,none⟩ = false:=(hBr.set_ i _).frozen j
     obtain ⟨u,s1⟩ : ∃u,(wr.setCell ⟨gi,i,none⟩ (.slice (some ⟨bj,0,none⟩) Ct Ct)).cell? ⟨gi,j,none⟩ = some u:=by
      rw [(hBr.set_ i _).cell j]
      exact ⟨_,Array.getElem?_eq_getElem (by simpa using (by omega : j < cur.size))⟩
     have hsw:=hi_.swap hi hj hbi hbj
     have hxx:=hsw.2.trans (lx (dr _))
     have hoo : ∀k,k < wr.heap.size->k ≠ gi->(((wr.setCell ⟨gi,i,none⟩ (.slice (some ⟨bj,0,none⟩) Ct Ct)).setCell ⟨gi,j,none⟩ (.slice (some ⟨bi,0,none⟩) Ct Ct)).drew).heap[k]? = wr.heap[k]?:=fun k _ hk=>set2_old _ _ _ _ _ _ _ hk
     have hbb : Below 0 wr (((wr.setCell ⟨gi,i,none⟩ (.slice (some ⟨bj,0,none⟩) Ct Ct)).setCell ⟨gi,j,none⟩ (.slice (some ⟨bi,0,none⟩) Ct Ct)).drew):=(bset (bset (Below.refl _ _) (Nat.zero_le _) _ _) (Nat.zero_le _) _ _).drew
     have hsw1:=hsw.1.below (dr _)
     have HFX:=HidS.mk (And.intro hxx (And.intro hoo (And.intro hbb hsw1)))
     have HBR:=HidS.mk hBr
     clear hxx hoo hbb hsw1 hsw hBr
     go_upto_region 4 with (fail)
     go_region
     go_wp2
     go_roundw
     case measure=>simp [intOf]
     obtain ⟨hxx,hoo,hbb,hsw1⟩:=HFX.out
     have hBr:=HBR.out
     refine ⟨3,by omega,by simp,hb0.trans hbb,hx0.trans hxx,fun b hb n1 n2 n3=>(hoo b oM n3).trans (HOLD.out b hb n1 n2 n3),?_,?_,?_⟩
     ·rw [if_neg oM,if_neg oM]; exact RowsO.gone hs hBr hxx hoo (fun hh=>nsi (by injection hh with hh; exact hh.symm))
     ·rw [if_neg oM,if_neg oM]; exact RowsO.gone ht hBr hxx hoo (fun hh=>nti (by injection hh with hh; exact hh.symm))
     ·rw [if_neg oM,if_neg oM]; exact hsw1
    ·obtain rfl : m = 3:=by omega
     rw [if_neg oM,if_neg oM] at hs ht hi_
     go_wp2
     obtain ⟨gs1,gt1,gi1,f1,f2,f3,f4,f5,f6⟩:=H0.out
     have l1:=gs1.len
     have l2:=gt1.len
     have l3:=gi1.len
     refine bodyPost_end (results_none rfl _ _ _) rfl ⟨⟨_,rfl⟩,⟨hb0,hx0,fun b hb hn=>HOLD.out b hb (fun hh=>hn (.inl (by rw [hh]; rfl))) (fun hh=>hn (.inr (.inl (by rw [hh]; rfl)))) (fun hh=>hn (.inr (.inr (by rw [hh]; rfl))))⟩,hs,ht,hi_,?_,?_,?_,f4,f5,f6⟩
     ·exact fun b h1 h2=>f1 b (mem_swpL oM oM h1) (mem_swpL oM oM h2)
     ·exact fun b h1 h2=>f2 b (mem_swpL oM oM h1) (mem_swpL oM oM h2)
     ·exact fun b h1 h2=>f3 b (mem_swpL oM oM h1) (mem_swpL oM oM h2)
end Go.Proofs.YtnocgagoaldfnaaGreat
