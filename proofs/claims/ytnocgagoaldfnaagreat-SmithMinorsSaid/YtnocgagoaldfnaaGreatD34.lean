/- smith: the parts of work.run. -/
import Derived.Test.YtnocgagoaldfnaaGreatD33
set_option linter.unusedVariables false
set_option linter.unusedSimpArgs false
set_option linter.unusedSectionVars false
namespace Go.Proofs.YtnocgagoaldfnaaGreat
open Go.RowKit
def okW (B R C Cu Cw : Nat) (z : W5) : Prop:=okF B R C z.s/\okF B R Cu z.u/\okF B R Cu z.v/\okF B C Cw z.w/\okF B C Cw z.x
theorem RowsO.fresh {w : World} {base : Nat} {A : Value} {C : Nat} {bs : List Nat} {M : List (List Int)} (h : RowsO w base A C bs M) {b : Nat} (hb : Zn A bs b) : base<=b:=by
 rcases hb with hb | hb
 ·obtain ⟨k,hk,e⟩:=List.getElem_of_mem hb
  exact (h.row k b (M[k]'(by rw [h.len]; exact hk)) (by rw [List.getElem?_eq_getElem hk,e]) (List.getElem?_eq_getElem _)).1
 ·rcases h.own.2 with ⟨rfl,-⟩ | ⟨g,cap,cur,rfl,h2,-⟩
  ·cases hb
  ·simp only [Value.ownBlock,Option.some.injEq] at hb
   omega
section
variable {w w' : World} {base wb RS CS R C Cu Cw : Nat} {AS AU AV AW AX : Value} {bS bU bV bW bX : List Nat} {z : W5}
theorem WorkV.band1 (h : WorkV w base wb R C R C Cu Cw AS AU AV AW AX bS bU bV bW bX z) : BandZ (fun b=>Zn AS bS b ∨ Zn AU bU b ∨ Zn AV bV b) w AS AU AV R C Cu ⟨z.s,z.u,z.v⟩:=
 ⟨⟨bS,bU,bV,⟨h.mS,h.mU,h.mV,h.su.far,h.sv.far,h.uv.far,h.su.own,h.sv.own,h.uv.own⟩,fun b hb=>by
  rcases hb with hb | hb | hb
  ·exact .inl (.inl hb)
  ·exact .inr (.inl (.inl hb))
  ·exact .inr (.inr (.inl hb))⟩,fun g hg=>by
  rcases hg with hg | hg | hg
  ·exact .inl (.inr hg)
  ·exact .inr (.inl (.inr hg))
  ·exact .inr (.inr (.inr hg))⟩
theorem WorkV.zlt1 (h : WorkV w base wb RS CS R C Cu Cw AS AU AV AW AX bS bU bV bW bX z) : ∀b,(Zn AS bS b ∨ Zn AU bU b ∨ Zn AV bV b)->b < w.heap.size:=by
 rintro b (hb | hb | hb)
 ·exact h.mS.zlt hb
 ·exact h.mU.zlt hb
 ·exact h.mV.zlt hb
theorem WorkV.after1 (h : WorkV w base wb R C R C Cu Cw AS AU AV AW AX bS bU bV bW bX z) {x : Bst} (ho : OnlyZ (fun b=>Zn AS bS b ∨ Zn AU bU b ∨ Zn AV bV b) w w') (hz : BandZ (fun b=>Zn AS bS b ∨ Zn AU bU b ∨ Zn AV bV b) w' AS AU AV R C Cu x) :
  (∃bS' bU' bV',WorkV w' base wb R C R C Cu Cw AS AU AV AW AX bS' bU' bV' bW bX ⟨x.s,x.t,x.i,z.w,z.x⟩)/\OnlyZ (fun b=>base<=b) w w':=by
 obtain ⟨⟨bS',bU',bV',⟨h1,h2,h3,h4,h5,h6,h7,h8,h9⟩,hzz⟩,hown⟩:=hz
 have zS : ∀b,Zn AS bS' b->Zn AS bS b ∨ Zn AU bU b ∨ Zn AV bV b:=fun b hb=>hb.elim (fun hh=>hzz b (.inl hh)) (fun hh=>hown b (.inl hh))
 have zU : ∀b,Zn AU bU' b->Zn AS bS b ∨ Zn AU bU b ∨ Zn AV bV b:=fun b hb=>hb.elim (fun hh=>hzz b (.inr (.inl hh))) (fun hh=>hown b (.inr (.inl hh)))
 have zV : ∀b,Zn AV bV' b->Zn AS bS b ∨ Zn AU bU b ∨ Zn AV bV b:=fun b hb=>hb.elim (fun hh=>hzz b (.inr (.inr hh))) (fun hh=>hown b (.inr (.inr hh)))
 have nW : ∀b,(Zn AS bS b ∨ Zn AU bU b ∨ Zn AV bV b)->¬ Zn AW bW b:=by
  rintro b (hb | hb | hb) hw
  ·exact h.sw b hb hw
  ·exact h.uw b hb hw
  ·exact h.vw b hb hw
 have nX : ∀b,(Zn AS bS b ∨ Zn AU bU b ∨ Zn AV bV b)->¬ Zn AX bX b:=by
  rintro b (hb | hb | hb) hw
  ·exact h.sx b hb hw
  ·exact h.ux b hb hw
  ·exact h.vx b hb hw
 have hzb : ∀b,(Zn AS bS b ∨ Zn AU bU b ∨ Zn AV bV b)->base<=b:=by
  rintro b (hb | hb | hb)
  ·exact h.zb b (.inl hb)
  ·exact h.zb b (.inr (.inl hb))
  ·exact h.zb b (.inr (.inr (.inl hb)))
 refine ⟨⟨bS',bU',bV',⟨ho.blk h.blk ?_,h.wbb,h1,h2,h3,h.mW.keepZ ho (fun b hb hz=>nW b hz hb),h.mX.keepZ ho (fun b hb hz=>nX b hz hb),?_,Ap.of h1 h2 h4 h7,Ap.of h1 h3 h5 h8,fun b hb=>nW b (zS b hb),fun b hb=>nX b (zS b hb),Ap.of h2 h3 h6 h9,
  fun b hb=>nW b (zU b hb),fun b hb=>nX b (zU b hb),fun b hb=>nW b (zV b hb),fun b hb=>nX b (zV b hb),h.wx⟩⟩,ho.mono (fun b _ hb=>hzb b hb)⟩
 ·rintro (hh | hh | hh)
  ·exact h.mS.nwb h.blk hh
  ·exact h.mU.nwb h.blk hh
  ·exact h.mV.nwb h.blk hh
 ·rintro b (hb | hb | hb | hb | hb)
  ·exact hzb b (zS b hb)
  ·exact hzb b (zU b hb)
  ·exact hzb b (zV b hb)
  ·exact h.zb b (.inr (.inr (.inr (.inl hb))))
  ·exact h.zb b (.inr (.inr (.inr (.inr hb))))
theorem WorkV.band2 (h : WorkV w base wb C R R C Cu Cw AS AU AV AW AX bS bU bV bW bX z) : BandZ (fun b=>Zn AS bS b ∨ Zn AW bW b ∨ Zn AX bX b) w AS AW AX C R Cw ⟨z.s,z.w,z.x⟩:=
 ⟨⟨bS,bW,bX,⟨h.mS,h.mW,h.mX,h.sw.far,h.sx.far,h.wx.far,h.sw.own,h.sx.own,h.wx.own⟩,fun b hb=>by
  rcases hb with hb | hb | hb
  ·exact .inl (.inl hb)
  ·exact .inr (.inl (.inl hb))
  ·exact .inr (.inr (.inl hb))⟩,fun g hg=>by
  rcases hg with hg | hg | hg
  ·exact .inl (.inr hg)
  ·exact .inr (.inl (.inr hg))
  ·exact .inr (.inr (.inr hg))⟩
theorem WorkV.zlt2 (h : WorkV w base wb RS CS R C Cu Cw AS AU AV AW AX bS bU bV bW bX z) : ∀b,(Zn AS bS b ∨ Zn AW bW b ∨ Zn AX bX b)->b < w.heap.size:=by
 rintro b (hb | hb | hb)
 ·exact h.mS.zlt hb
 ·exact h.mW.zlt hb
 ·exact h.mX.zlt hb
theorem WorkV.after2 (h : WorkV w base wb C R R C Cu Cw AS AU AV AW AX bS bU bV bW bX z) {x : Bst} (ho : OnlyZ (fun b=>Zn AS bS b ∨ Zn AW bW b ∨ Zn AX bX b) w w') (hz : BandZ (fun b=>Zn AS bS b ∨ Zn AW bW b ∨ Zn AX bX b) w' AS AW AX C R Cw x) :
  (∃bS' bW' bX',WorkV w' base wb C R R C Cu Cw AS AU AV AW AX bS' bU bV bW' bX' ⟨x.s,z.u,z.v,x.t,x.i⟩)/\OnlyZ (fun b=>base<=b) w w':=by
 obtain ⟨⟨bS',bU',bV',⟨h1,h2,h3,h4,h5,h6,h7,h8,h9⟩,hzz⟩,hown⟩:=hz
 have zS : ∀b,Zn AS bS' b->Zn AS bS b ∨ Zn AW bW b ∨ Zn AX bX b:=fun b hb=>hb.elim (fun hh=>hzz b (.inl hh)) (fun hh=>hown b (.inl hh))
 have zU : ∀b,Zn AW bU' b->Zn AS bS b ∨ Zn AW bW b ∨ Zn AX bX b:=fun b hb=>hb.elim (fun hh=>hzz b (.inr (.inl hh))) (fun hh=>hown b (.inr (.inl hh)))
 have zV : ∀b,Zn AX bV' b->Zn AS bS b ∨ Zn AW bW b ∨ Zn AX bX b:=fun b hb=>hb.elim (fun hh=>hzz b (.inr (.inr hh))) (fun hh=>hown b (.inr (.inr hh)))
 have nW : ∀b,(Zn AS bS b ∨ Zn AW bW b ∨ Zn AX bX b)->¬ Zn AU bU b:=by
  rintro b (hb | hb | hb) hw
  ·exact h.su b hb hw
  ·exact h.uw b hw hb
  ·exact h.ux b hw hb
 have nX : ∀b,(Zn AS bS b ∨ Zn AW bW b ∨ Zn AX bX b)->¬ Zn AV bV b:=by
  rintro b (hb | hb | hb) hw
  ·exact h.sv b hb hw
  ·exact h.vw b hw hb
  ·exact h.vx b hw hb
 have hzb : ∀b,(Zn AS bS b ∨ Zn AW bW b ∨ Zn AX bX b)->base<=b:=by
  rintro b (hb | hb | hb)
  ·exact h.zb b (.inl hb)
  ·exact h.zb b (.inr (.inr (.inr (.inl hb))))
  ·exact h.zb b (.inr (.inr (.inr (.inr hb))))
 refine ⟨⟨bS',bU',bV',⟨ho.blk h.blk ?_,h.wbb,h1,h.mU.keepZ ho (fun b hb hz=>nW b hz hb),h.mV.keepZ ho (fun b hb hz=>nX b hz hb),h2,h3,?_,fun b hb=>nW b (zS b hb),fun b hb=>nX b (zS b hb),Ap.of h1 h2 h4 h7,Ap.of h1 h3 h5 h8,h.uv,
  fun b hb hu=>nW b (zU b hu) hb,fun b hb hu=>nW b (zV b hu) hb,fun b hb hu=>nX b (zU b hu) hb,fun b hb hu=>nX b (zV b hu) hb,Ap.of h2 h3 h6 h9⟩⟩,ho.mono (fun b _ hb=>hzb b hb)⟩
 ·rintro (hh | hh | hh)
  ·exact h.mS.nwb h.blk hh
  ·exact h.mW.nwb h.blk hh
  ·exact h.mX.nwb h.blk hh
 ·rintro b (hb | hb | hb | hb | hb)
  ·exact hzb b (zS b hb)
  ·exact h.zb b (.inr (.inl hb))
  ·exact h.zb b (.inr (.inr (.inl hb)))
  ·exact hzb b (zU b hb)
  ·exact hzb b (zV b hb)
theorem WorkV.setS (h : WorkV w base wb RS CS R C Cu Cw AS AU AV AW AX bS bU bV bW bX z) {RS' CS' : Nat} {AS' : Value} {bS' : List Nat} {F : Nat->Nat->Int} (hs : Wri w AS' RS' CS' bS' F) {n : Nat} (hf : ∀b,Zn AS' bS' b->n<=b) (hn : ∀b,Zn AU bU b ∨ Zn AV bV b ∨ Zn AW bW b ∨ Zn AX bX b->b < n) (hbn : base<=n) :
  WorkV (((w.setCell ⟨wb,0,none⟩ (.int .i64 RS')).setCell ⟨wb,1,none⟩ (.int .i64 CS')).setCell ⟨wb,2,none⟩ AS') base wb RS' CS' R C Cu Cw AS' AU AV AW AX bS' bU bV bW bX ⟨F,z.u,z.v,z.w,z.x⟩ ∧
   OnlyZ (fun b=>base<=b) w (((w.setCell ⟨wb,0,none⟩ (.int .i64 RS')).setCell ⟨wb,1,none⟩ (.int .i64 CS')).setCell ⟨wb,2,none⟩ AS'):=by
 have hx : LExt w (((w.setCell ⟨wb,0,none⟩ (.int .i64 RS')).setCell ⟨wb,1,none⟩ (.int .i64 CS')).setCell ⟨wb,2,none⟩ AS'):=h.blk.lext3 dE _ _ _
 have ho : OnlyZ (fun b=>b = wb) w (((w.setCell ⟨wb,0,none⟩ (.int .i64 RS')).setCell ⟨wb,1,none⟩ (.int .i64 CS')).setCell ⟨wb,2,none⟩ AS'):=
  ⟨bset (bset (bset (Below.refl _ _) (Nat.zero_le _) _ _) (Nat.zero_le _) _ _) (Nat.zero_le _) _ _,hx,fun b _ hb=>set3_old _ _ _ _ _ _ hb⟩
 have hb3:=((h.blk.set_ 0 (.int .i64 RS')).set_ 1 (.int .i64 CS')).set_ 2 AS'
 have far : ∀{A : Value} {bs : List Nat},(∀b,Zn A bs b->b < n)->Ap AS' bS' A bs:=fun hlt b h1 h2=>by
  have:=hf b h1
  have:=hlt b h2
  omega
 refine ⟨⟨by simpa using hb3,h.wbb,hs.keepZ ho ?_,h.mU.keepZ ho ?_,h.mV.keepZ ho ?_,h.mW.keepZ ho ?_,h.mX.keepZ ho ?_,?_,far (fun b hb=>hn b (.inl hb)),far (fun b hb=>hn b (.inr (.inl hb))),far (fun b hb=>hn b (.inr (.inr (.inl hb)))),far (fun b hb=>hn b (.inr (.inr (.inr hb)))),h.uv,h.uw,h.ux,h.vw,h.vx,h.wx⟩,ho.mono ?_⟩
 ·rintro b hb rfl; exact hs.nwb h.blk hb
 ·rintro b hb rfl; exact h.mU.nwb h.blk hb
 ·rintro b hb rfl; exact h.mV.nwb h.blk hb
 ·rintro b hb rfl; exact h.mW.nwb h.blk hb
 ·rintro b hb rfl; exact h.mX.nwb h.blk hb
 ·rintro b (hb | hb)
  ·exact Nat.le_trans hbn (hf b hb)
  ·exact h.zb b (.inr hb)
 ·rintro b - rfl; exact h.wbb
theorem WorkV.zltR (h : WorkV w base wb RS CS R C Cu Cw AS AU AV AW AX bS bU bV bW bX z) : ∀b,Zn AU bU b ∨ Zn AV bV b ∨ Zn AW bW b ∨ Zn AX bX b->b < w.heap.size:=by
 rintro b (hb | hb | hb | hb)
 ·exact h.mU.zlt hb
 ·exact h.mV.zlt hb
 ·exact h.mW.zlt hb
 ·exact h.mX.zlt hb
end
theorem Wri.shape {w : World} {A : Value} {R C : Nat} {bs : List Nat} {F : Nat->Nat->Int} (h : Wri w A R C bs F) : ∃o c,A = .slice o R c:=by
 obtain ⟨so,sn,sc,rfl,s1,-⟩:=id (RowsO.rows h)
 obtain rfl : R = sn:=by rw [<-s1]; simp [genM]
 exact ⟨_,_,rfl⟩
theorem transposeW {w : World} {A : Value} {R C B : Nat} {bs : List Nat} {F : Nat->Nat->Int} (hB : BSm B) (h : Wri w A R C bs F) (hok : okF B R C F) (hR : R<=1000000) (hC : C<=1000000) :
  Calls Tryz.prog 51 #[.agg #[.int .i64 R,.int .i64 C,A]] w fun e w'=>∃o c bs',e = .returned (.agg #[.int .i64 C,.int .i64 R,.slice o C c])/\Wri w' (.slice o C c) C R bs' (trF F)/\(∀b,Zn (.slice o C c) bs' b->w.heap.size<=b)/\Below w.heap.size w w':=by
 refine (mtranspose_any _ R C (genM R C F) w h.mat (genM_fits R C F) hR hC ?_).mono ?_
 ·intro r hr z hz
  unfold genM at hr
  obtain ⟨i,hi,rfl⟩:=List.mem_map.1 hr
  obtain ⟨j,hj,rfl⟩:=List.mem_map.1 hz
  exact hB.sm _ (hok i (List.mem_range.1 hi) j (List.mem_range.1 hj))
 ·rintro e w' ⟨v,bs',rfl,⟨hl,A',rfl,ho⟩,hb⟩
  have hq : genM C R (fun a b=>ent (genM R C F) b a) = genM C R (trF F):=genM_congr fun a ha b hb=>ent_genM hb ha
  rw [hq] at ho
  obtain ⟨o,c,rfl⟩:=Wri.shape (h:=(ho.mono (Nat.zero_le _) : Wri w' A' C R bs' (trF F)))
  exact ⟨o,c,bs',rfl,ho.mono (Nat.zero_le _),fun b hb=>ho.fresh hb,hb⟩
end Go.Proofs.YtnocgagoaldfnaaGreat
