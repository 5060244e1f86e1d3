/- torsionlaw12.HermiteChecks: the walk. -/
import Derived.Test.YtgnmdddaiefooaaGreatX01
set_option linter.unusedVariables false
set_option linter.unusedSimpArgs false
set_option linter.unusedSectionVars false
set_option maxHeartbeats 16000000
set_option maxRecDepth 100000
namespace Go.Proofs.YtgnmdddaiefooaaGreat
open Go.RowKit
structure C9 (w : World) (bw : Nat) (AM AU AV : Value) (R C : Nat) (bm bu bv : List Nat) (S T V : Nat->Nat->Int) : Prop where
 blk : Blk w bw tHe #[.int .i64 R,.int .i64 C,AM,.int .i64 R,.int .i64 R,AU,.int .i64 R,.int .i64 R,AV]
 m : Wri w AM R C bm S
 u : Wri w AU R R bu T
 v : Wri w AV R R bv V
 mu : Ap AM bm AU bu
 mv : Ap AM bm AV bv
 uv : Ap AU bu AV bv
theorem C9.below {w w' : World} {bw : Nat} {AM AU AV : Value} {R C : Nat} {bm bu bv : List Nat} {S T V : Nat->Nat->Int} (h : C9 w bw AM AU AV R C bm bu bv S T V) (hb : Below w.heap.size w w') : C9 w' bw AM AU AV R C bm bu bv S T V:=⟨h.blk.below hb,h.m.below hb,h.u.below hb,h.v.below hb,h.mu,h.mv,h.uv⟩
structure G9 (w : World) (bw : Nat) (R C B : Nat) : Prop where
 ex : ∃AM AU AV S T V,Blk w bw tHe #[.int .i64 R,.int .i64 C,AM,.int .i64 R,.int .i64 R,AU,.int .i64 R,.int .i64 R,AV]/\RowsV w AM (genM R C S)/\RowsV w AU (genM R R T)/\RowsV w AV (genM R R V)/\leM B R C S/\leM B R R T/\leM B R R V
section
variable {w w' : World} {bw : Nat} {AM AU AV : Value} {R C : Nat} {bm bu bv : List Nat} {S T V : Nat->Nat->Int}
theorem C9.g {B : Nat} (h : C9 w bw AM AU AV R C bm bu bv S T V) (h1 : leM B R C S) (h2 : leM B R R T) (h3 : leM B R R V) : G9 w bw R C B:=⟨AM,AU,AV,S,T,V,h.blk,RowsO.rows h.m,RowsO.rows h.u,RowsO.rows h.v,h1,h2,h3⟩
theorem leM_put {B R C i c : Nat} {F : Nat->Nat->Int} {z : Int} (h : leM B R C F) (hz : z.natAbs<=B) : leM B R C (putF F i c z):=fun a ha b hb=>by
 unfold putF;split
 ·exact hz
 ·exact h a ha b hb
theorem C9.putM {B : Nat} (h : C9 w bw AM AU AV R C bm bu bv S T V) {i b c : Nat} (hi : i < R) (hb : bm[i]? = some b) (hc : c < C) {s : Bool} {a : Option Addr} {l k : Nat} {z : Int} (hv : IntV w (.agg #[.bool s,.slice a l k]) z) (h1 : leM B R C S) (h2 : leM B R R T) (h3 : leM B R R V) (hz : z.natAbs<=B) :
  G9 ((w.setCell ⟨b,c * 2,none⟩ (.bool s)).setCell ⟨b,c * 2 + 1,none⟩ (.slice a l k)) bw R C B/\OnlyZ (fun k=>k = b) w ((w.setCell ⟨b,c * 2,none⟩ (.bool s)).setCell ⟨b,c * 2 + 1,none⟩ (.slice a l k)):=by
 obtain ⟨g1,g2⟩:=h.m.putc hi hb hc hv;have hz' : Zn AM bm b:=.inl (xgd hb);exact ⟨⟨AM,AU,AV,_,T,V,g2.blk h.blk (fun e=>h.m.nzb h.blk dE dE (by rw [e]; exact hz')),RowsO.rows g1,RowsO.rows (h.u.keep1 g2 (h.mu b hz')),RowsO.rows (h.v.keep1 g2 (h.mv b hz')),leM_put h1 hz,h2,h3⟩,g2⟩
theorem C9.putU {B : Nat} (h : C9 w bw AM AU AV R C bm bu bv S T V) {i b c : Nat} (hi : i < R) (hb : bu[i]? = some b) (hc : c < R) {s : Bool} {a : Option Addr} {l k : Nat} {z : Int} (hv : IntV w (.agg #[.bool s,.slice a l k]) z) (h1 : leM B R C S) (h2 : leM B R R T) (h3 : leM B R R V) (hz : z.natAbs<=B) :
  G9 ((w.setCell ⟨b,c * 2,none⟩ (.bool s)).setCell ⟨b,c * 2 + 1,none⟩ (.slice a l k)) bw R C B/\OnlyZ (fun k=>k = b) w ((w.setCell ⟨b,c * 2,none⟩ (.bool s)).setCell ⟨b,c * 2 + 1,none⟩ (.slice a l k)):=by
 obtain ⟨g1,g2⟩:=h.u.putc hi hb hc hv;have hz' : Zn AU bu b:=.inl (xgd hb);exact ⟨⟨AM,AU,AV,S,_,V,g2.blk h.blk (fun e=>h.u.nzb h.blk dE dE (by rw [e]; exact hz')),RowsO.rows (h.m.keep1 g2 (fun hh=>h.mu b hh hz')),RowsO.rows g1,RowsO.rows (h.v.keep1 g2 (h.uv b hz')),h1,leM_put h2 hz,h3⟩,g2⟩
theorem C9.putV {B : Nat} (h : C9 w bw AM AU AV R C bm bu bv S T V) {i b c : Nat} (hi : i < R) (hb : bv[i]? = some b) (hc : c < R) {s : Bool} {a : Option Addr} {l k : Nat} {z : Int} (hv : IntV w (.agg #[.bool s,.slice a l k]) z) (h1 : leM B R C S) (h2 : leM B R R T) (h3 : leM B R R V) (hz : z.natAbs<=B) :
  G9 ((w.setCell ⟨b,c * 2,none⟩ (.bool s)).setCell ⟨b,c * 2 + 1,none⟩ (.slice a l k)) bw R C B/\OnlyZ (fun k=>k = b) w ((w.setCell ⟨b,c * 2,none⟩ (.bool s)).setCell ⟨b,c * 2 + 1,none⟩ (.slice a l k)):=by
 obtain ⟨g1,g2⟩:=h.v.putc hi hb hc hv;have hz' : Zn AV bv b:=.inl (xgd hb);exact ⟨⟨AM,AU,AV,S,T,_,g2.blk h.blk (fun e=>h.v.nzb h.blk dE dE (by rw [e]; exact hz')),RowsO.rows (h.m.keep1 g2 (fun hh=>h.mv b hh hz')),RowsO.rows (h.u.keep1 g2 (fun hh=>h.uv b hh hz')),RowsO.rows g1,h1,h2,leM_put h3 hz⟩,g2⟩
theorem G9.below {B : Nat} (h : G9 w bw R C B) (hb : Below w.heap.size w w') : G9 w' bw R C B:=by
 obtain ⟨AM,AU,AV,S,T,V,h1,h2,h3,h4,h5⟩:=h.ex;exact ⟨AM,AU,AV,S,T,V,h1.below hb,h2.below hb,h3.below hb,h4.below hb,h5⟩
end
def ElemW (n0 : Nat) (w : World) (bw R C B B1 NC : Nat) (ao : Option Addr) (w' : World) (i c : Nat) : Prop:=
 ∃g b s a l k z,ao = some ⟨g,0,none⟩/\g < w'.heap.size/\n0<=b/\b < w.heap.size/\w'.cell? ⟨g,i,none⟩ = some (.slice (some ⟨b,0,none⟩) NC NC)/\w'.cell? ⟨b,c * 2,none⟩ = some (.bool s)/\w'.cell? ⟨b,c * 2 + 1,none⟩ = some (.slice a l k)/\IntV w' (.agg #[.bool s,.slice a l k]) z/\z.natAbs<=B1 ∧
  ∀w'',Below w'.heap.size w' w''->(∃s a l k,w''.cell? ⟨b,c * 2,none⟩ = some (.bool s)/\w''.cell? ⟨b,c * 2 + 1,none⟩ = some (.slice a l k)/\w''.frozen? ⟨b,c * 2,none⟩ = false/\w''.frozen? ⟨b,c * 2 + 1,none⟩ = false) ∧
   ∀s a l k z,IntV w'' (.agg #[.bool s,.slice a l k]) z->z.natAbs<=B->G9 ((w''.setCell ⟨b,c * 2,none⟩ (.bool s)).setCell ⟨b,c * 2 + 1,none⟩ (.slice a l k)) bw R C B/\OnlyZ (fun k=>k = b) w'' ((w''.setCell ⟨b,c * 2,none⟩ (.bool s)).setCell ⟨b,c * 2 + 1,none⟩ (.slice a l k))
theorem C9.elM {n0 : Nat} {w w' : World} {bw R C B B1 : Nat} {AU AV : Value} {so : Option Addr} {sc : Nat} {bm bu bv : List Nat} {S T V : Nat->Nat->Int} (h : C9 w bw (.slice so R sc) AU AV R C bm bu bv S T V) (hz : ∀b,Z3 (.slice so R sc) AU AV bm bu bv b->n0<=b) (hb : Below w.heap.size w w') (h1 : leM B1 R C S) (h2 : leM B1 R R T) (h3 : leM B1 R R V) (hBB : B1<=B) {i c : Nat} (hi : i < R) (hc : c < C) : ElemW n0 w bw R C B B1 C so w' i c:=by
 obtain ⟨g,cap,e⟩:=h.m.base oM;injection e with e
 subst e;obtain ⟨b,hbi⟩:=h.m.bex hi;have h':=h.below hb;obtain ⟨s,a,l,k,p1,p2,-,-,hx⟩:=h'.m.elem hi hbi hc;refine ⟨g,b,s,a,l,k,S i c,rfl,h'.m.zlt (.inr rfl),hz b (.inl (.inl (xgd hbi))),h.m.zlt (.inl (xgd hbi)),h'.m.rowc hi hbi,p1,p2,hx,h1 i hi c hc,fun w'' hb2=>?_⟩;have h'':=h'.below hb2;obtain ⟨s',a',l',k',y1,y2,y3,y4,-⟩:=h''.m.elem hi hbi hc;exact ⟨⟨s',a',l',k',y1,y2,y3,y4⟩,fun s a l k z hv hz=>h''.putM hi hbi hc hv (h1.mono hBB) (h2.mono hBB) (h3.mono hBB) hz⟩
theorem C9.elU {n0 : Nat} {w w' : World} {bw R C B B1 : Nat} {AM AV : Value} {so : Option Addr} {sc : Nat} {bm bu bv : List Nat} {S T V : Nat->Nat->Int} (h : C9 w bw AM (.slice so R sc) AV R C bm bu bv S T V) (hz : ∀b,Z3 AM (.slice so R sc) AV bm bu bv b->n0<=b) (hb : Below w.heap.size w w') (h1 : leM B1 R C S) (h2 : leM B1 R R T) (h3 : leM B1 R R V) (hBB : B1<=B) {i c : Nat} (hi : i < R) (hc : c < R) : ElemW n0 w bw R C B B1 R so w' i c:=by
 obtain ⟨g,cap,e⟩:=h.u.base oM;injection e with e
 subst e;obtain ⟨b,hbi⟩:=h.u.bex hi;have h':=h.below hb;obtain ⟨s,a,l,k,p1,p2,-,-,hx⟩:=h'.u.elem hi hbi hc;refine ⟨g,b,s,a,l,k,T i c,rfl,h'.u.zlt (.inr rfl),hz b (.inr (.inl (.inl (xgd hbi)))),h.u.zlt (.inl (xgd hbi)),h'.u.rowc hi hbi,p1,p2,hx,h2 i hi c hc,fun w'' hb2=>?_⟩;have h'':=h'.below hb2;obtain ⟨s',a',l',k',y1,y2,y3,y4,-⟩:=h''.u.elem hi hbi hc;exact ⟨⟨s',a',l',k',y1,y2,y3,y4⟩,fun s a l k z hv hz=>h''.putU hi hbi hc hv (h1.mono hBB) (h2.mono hBB) (h3.mono hBB) hz⟩
theorem C9.elV {n0 : Nat} {w w' : World} {bw R C B B1 : Nat} {AM AU : Value} {so : Option Addr} {sc : Nat} {bm bu bv : List Nat} {S T V : Nat->Nat->Int} (h : C9 w bw AM AU (.slice so R sc) R C bm bu bv S T V) (hz : ∀b,Z3 AM AU (.slice so R sc) bm bu bv b->n0<=b) (hb : Below w.heap.size w w') (h1 : leM B1 R C S) (h2 : leM B1 R R T) (h3 : leM B1 R R V) (hBB : B1<=B) {i c : Nat} (hi : i < R) (hc : c < R) : ElemW n0 w bw R C B B1 R so w' i c:=by
 obtain ⟨g,cap,e⟩:=h.v.base oM;injection e with e
 subst e;obtain ⟨b,hbi⟩:=h.v.bex hi;have h':=h.below hb;obtain ⟨s,a,l,k,p1,p2,-,-,hx⟩:=h'.v.elem hi hbi hc;refine ⟨g,b,s,a,l,k,V i c,rfl,h'.v.zlt (.inr rfl),hz b (.inr (.inr (.inl (xgd hbi)))),h.v.zlt (.inl (xgd hbi)),h'.v.rowc hi hbi,p1,p2,hx,h3 i hi c hc,fun w'' hb2=>?_⟩;have h'':=h'.below hb2;obtain ⟨s',a',l',k',y1,y2,y3,y4,-⟩:=h''.v.elem hi hbi hc;exact ⟨⟨s',a',l',k',y1,y2,y3,y4⟩,fun s a l k z hv hz=>h''.putV hi hbi hc hv (h1.mono hBB) (h2.mono hBB) (h3.mono hBB) hz⟩
theorem C9.sel {n0 : Nat} {w : World} {bw R C B B1 op : Nat} {so uo vo : Option Addr} {sc uc vc : Nat} {bm bu bv : List Nat} {S T V : Nat->Nat->Int} (h : C9 w bw (.slice so R sc) (.slice uo R uc) (.slice vo R vc) R C bm bu bv S T V) (hz : ∀b,Z3 (.slice so R sc) (.slice uo R uc) (.slice vo R vc) bm bu bv b->n0<=b) (h1 : leM B1 R C S) (h2 : leM B1 R R T) (h3 : leM B1 R R V) (hBB : B1<=B) (hop : op < 3) (cs : Array Value) (hcs : cs = #[.int .i64 R,.int .i64 C,.slice so R sc,.int .i64 R,.int .i64 R,.slice uo R uc,.int .i64 R,.int .i64 R,.slice vo R vc]) :
  ∃NC ao ac,cs[op * 3]? = some (.int .i64 R)/\cs[op * 3 + 1]? = some (.int .i64 ((NC : Nat) : Int))/\cs[op * 3 + 2]? = some (.slice ao R ac)/\NC<=max R C/\∀w',Below w.heap.size w w'->∀i c,i < R->c < NC->ElemW n0 w bw R C B B1 NC ao w' i c:=by
 subst hcs;rcases (by omega : op = 0 ∨ op = 1 ∨ op = 2) with rfl | rfl | rfl
 ·exact ⟨C,so,sc,rfl,rfl,rfl,by omega,fun w' hb i c hi hc=>h.elM hz hb h1 h2 h3 hBB hi hc⟩
 ·exact ⟨R,uo,uc,rfl,rfl,rfl,by omega,fun w' hb i c hi hc=>h.elU hz hb h1 h2 h3 hBB hi hc⟩
 ·exact ⟨R,vo,vc,rfl,rfl,rfl,by omega,fun w' hb i c hi hc=>h.elV hz hb h1 h2 h3 hBB hi hc⟩
theorem hcheckD (av fv : Value) (R C : Nat) (A H U V : List (List Int)) (hr hc ur uc vr vc : Int) (d : Bool) (w : World) (ha : MatV w av R C A) (hA : Fits R C A) (hf : HermW w fv hr hc H ur uc U vr vc V) (hR : R<=4) (hC : C<=4)
  (hm1 : Fits R R U->MulSm U A R R C) (hm2 : Fits R R U->Fits R R V->MulSm U V R R R) (hd : d = true ↔ ChkP R C A hr hc H ur uc U vr vc V) :
  Calls Tryz.prog 45 #[av,fv] w fun e w'=>∃v,e = .returned v/\v = .bool d/\Below w.heap.size w w':=by
 refine (hcheck_any av fv R C A H U V hr hc ur uc vr vc w ha hA hf oM oM hm1 hm2).mono ?_;rintro e w' ⟨b,rfl,hb,hb'⟩;exact ⟨_,rfl,by rw [Bool.eq_iff_iff.2 (hb.trans hd.symm)],hb'⟩
theorem r12checkD (av fv : Value) (R C : Nat) (A H U V : List (List Int)) (hr hc ur uc vr vc : Int) (d : Bool) (w : World) (ha : MatV w av R C A) (hA : Fits R C A) (hf : HermW w fv hr hc H ur uc U vr vc V) (hR : R<=4) (hC : C<=4) (hSH : ∀r ∈ H,∀z ∈ r,Sm z)
  (hm1 : Fits R R U->MulSm U A R R C) (hm2 : Fits R R U->Fits R R V->MulSm U V R R R) (hd : d = true ↔ ChkP R C A hr hc H ur uc U vr vc V) :
  Calls Tryz.prog 42 #[av,fv] w fun e w'=>∃v,e = .returned v/\v = .bool d/\Below w.heap.size w w':=by
 refine (r12check_any av fv R C A H U V hr hc ur uc vr vc w ha hA hf oM oM hSH hm1 hm2).mono ?_;rintro e w' ⟨b,rfl,hb,hb'⟩;exact ⟨_,rfl,by rw [Bool.eq_iff_iff.2 (hb.trans hd.symm)],hb'⟩
theorem bool_of (P : Prop) : ∃d : Bool,d = true ↔ P:=by
 by_cases h : P
 ·exact ⟨true,by simp [h]⟩
 ·exact ⟨false,by simp [h]⟩
theorem small_iff {R C : Nat} {A H U V : List (List Int)} (h : GoodF R C A H U V) : ChkP R C A R C H R R U 0 0 [] ↔ R = 0:=by
 constructor
 ·intro hc
  have:=hc.v.1;omega
 ·rintro rfl
  have hV : V = []:=List.eq_nil_of_length_eq_zero h.fv.1;have hc:=h.chk;rw [hV] at hc;exact hc
theorem chk_bound : 4 * ((gk 40 9 + 700000000) * (gk 40 9 + 700000000)) < BD/\gk 40 9 + 700000000 < BD/\128<=gk 40 9 + 700000000:=by
 have h1:=gk_lt (e:=5) (M0:=9) (xgf 40) oM oM;obtain ⟨g,hg⟩ : ∃g,gk 40 9 = g:=⟨_,rfl⟩;rw [hg] at h1 ⊢
 have h0 : 700000000<=2 ^ (5 * E40):=Nat.le_trans (show 700000000<=2 ^ 30 by decide) (Nat.pow_le_pow_right oM (by rw [E40_num]; omega));obtain ⟨X,hX⟩ : ∃X,2 ^ (5 * E40) = X:=⟨_,rfl⟩;have h2 : 16 * (X * X) = 2 ^ (4 + (5 * E40 + 5 * E40)):=by rw [Nat.pow_add,Nat.pow_add,hX]
 rw [hX] at h1 h0;have h3 : (g + 700000000) * (g + 700000000)<=(2 * X) * (2 * X):=Nat.mul_le_mul oM oM;have h5 : (2 * X) * (2 * X) = 4 * (X * X):=by rw [Nat.mul_mul_mul_comm]
 have h6 : (g + 700000000) * 1<=(g + 700000000) * (g + 700000000):=Nat.mul_le_mul_left _ oM;have h4 : 2 ^ (4 + (5 * E40 + 5 * E40)) < B32 ^ DLIM:=by
  rw [show B32 = 2 ^ 32 from rfl,<-Nat.pow_mul];refine Nat.pow_lt_pow_right oM ?_;rw [DLIM_eq,E40_num];omega
 rw [BD_eq];omega
theorem r5copiedF {R C : Nat} {F : Nat->Nat->Int} (v : Value) (w : World) (h : MatV w v R C (genM R C F)) (hR : R<=1000000) (hC : C<=1000000) (hS : okF BD R C F) :
  Calls Tryz.prog 52 #[v] w fun e w'=>∃v,e = .returned v/\Within R C F w.heap.size w'.heap.size w' v/\Below w.heap.size w w':=
 (r5copied_any v R C _ w h (genM_fits _ _ _) hR hC (genM_all fun a ha b hb=>BD_sm (hS a ha b hb))).mono fun _ _ h=>RetMat.within h
theorem hermiteChecks_any (v v2 : Value) (r c r2 c2 mi pi qi : Nat) (k : Int) (ls ls2 : List Int) (w : World) (h : I8V w v ls) (h2 : I8V w v2 ls2) (hr : r<=255) (hc : c<=255) (hr2 : r2<=255) (hc2 : c2<=255) (hmi : mi<=255) (hpi : pi<=255) (hqi : qi<=255) (hk : -128<=k/\k<=127) :
  Calls Tryz.prog 12 #[.agg #[.int .u8 r,.int .u8 c,v],.agg #[.int .u8 mi,.int .u8 pi,.int .u8 qi,.int .i8 k],.agg #[.int .u8 r2,.int .u8 c2,v2]] w fun e w'=>e = .returned (.bool true)/\Below w.heap.size w w':=by
 obtain ⟨ao,n,cap,rfl,-,-,-,-,-⟩:=id h;obtain ⟨R,hR⟩ : ∃R : Nat,R = r % 5:=⟨_,rfl⟩;obtain ⟨C,hC⟩ : ∃C : Nat,C = c % 5:=⟨_,rfl⟩;have hR4 : R<=4:=by omega
 have hC4 : C<=4:=by omega
 have HR:=xgw hR;have HC:=xgw hC;clear hR hC;obtain ⟨M,hM⟩ : ∃M,genM R C (digF C ls) = M:=⟨_,rfl⟩;have HMade : HidS (∀w,I8V w (.slice ao n cap) ls->Calls Tryz.prog 14 #[.agg #[.int .u8 r,.int .u8 c,.slice ao n cap]] w fun e w'=>∃v,e = .returned v/\MatV w' v R C M/\Below w.heap.size w w'):=⟨fun w h=>by
  rw [<-hM];exact madeM _ r c ls w h hr hc R C HR.out HC.out⟩
 have HF : HidS (Fits R C M):=⟨by rw [<-hM]; exact genM_fits _ _ _⟩;have HA9 : HidS (leM 9 R C (ent M)):=⟨by rw [<-hM]; exact ent_leM (digF_leM R C C ls)⟩;clear hM;obtain ⟨yo,yn,ycap,rfl,-,-,-,-,-⟩:=id h2;obtain ⟨R2,hR2⟩ : ∃R2 : Nat,R2 = r2 % 5:=⟨_,rfl⟩;obtain ⟨C2,hC2⟩ : ∃C2 : Nat,C2 = c2 % 5:=⟨_,rfl⟩;have hR24 : R2<=4:=by omega
 have hC24 : C2<=4:=by omega
 have HR2:=xgw hR2;have HC2:=xgw hC2;clear hR2 hC2;obtain ⟨M2,hM2⟩ : ∃M2,genM R2 C2 (digF C2 ls2) = M2:=⟨_,rfl⟩;have HMade2 : HidS (∀w,I8V w (.slice yo yn ycap) ls2->Calls Tryz.prog 14 #[.agg #[.int .u8 r2,.int .u8 c2,.slice yo yn ycap]] w fun e w'=>∃v,e = .returned v/\MatV w' v R2 C2 M2/\Below w.heap.size w w'):=⟨fun w h=>by
  rw [<-hM2];exact madeM _ r2 c2 ls2 w h hr2 hc2 R2 C2 HR2.out HC2.out⟩
 have HF2 : HidS (Fits R2 C2 M2):=⟨by rw [<-hM2]; exact genM_fits _ _ _⟩;have HA2 : HidS (leM 9 R2 C2 (ent M2)):=⟨by rw [<-hM2]; exact ent_leM (digF_leM R2 C2 C2 ls2)⟩;clear hM2;go_enter Tryz.func12,Tryz.ntmps12;go_upto_region 1 with (fail)
 refine wp_world ?_;intro W0 hW0;obtain ⟨hB0,bx,bc,by_,hs0⟩:=world3 hW0;clear hW0;go_wp2_with fail
 refine (sanity12_any W0).mono ?_;rintro e w1 ⟨rfl,hb1⟩;have hB:=nx hB0 hb1;have bx:=bx.below hb1;have bc:=bc.below hb1;have by_:=by_.below hb1;obtain ⟨c1,c2',c3,c4,c5,c6⟩:=bx.three;go_wp2_with fail
 refine (HMade.out w1 (h.below hB)).mono ?_;rintro e w2 ⟨va,rfl,hm,hb2⟩;obtain ⟨ro,rn,rc,rfl⟩:=hm.agg;have hB:=nx hB hb2;have bc:=bc.below hb2;have by_:=by_.below hb2;clear c1 c2' c3 c4 c5 c6 bx;go_upto_region 3 with (fail)
 refine wp_world ?_;intro W3 hW3;obtain ⟨hB3,T8,hs3⟩:=world1 hW3;have HM:=xgv (hm.below hB3);have hB:=nx hB hB3;have bc:=bc.below hB3;have by_:=by_.below hB3;clear hW3 hm;obtain ⟨c1,c2',c3,c4,c5,c6⟩:=T8.three;go_wp2_with fail
 refine (r12form_small (M0:=9) (e:=5) dE dE dE _ M R C W3 HM.out HF.out hR4 hC4 HA9.out).mono ?_;rintro e w4 ⟨fv,rk,kc,H,U,V,rfl,hf,hle,hlu,hlv,hfv,hb4⟩;obtain ⟨f1,f2,f3,f4,f5,f6,f7,f8,f9,rfl,hfh⟩:=hfv.agg;have HG:=xgv (hf.good HF.out hR4 (M0:=9) (e:=5) dE dE dE HA9.out hle hlu hlv);obtain ⟨B0,hB0'⟩ : ∃B,gk 40 9 + 700000000 = B:=⟨_,rfl⟩;have hB4 : 4 * (B0 * B0) < BD/\B0 < BD/\128<=B0:=by
  rw [<-hB0'];exact chk_bound
 have HLE : HidS (leM (B0 - 128) R C H/\leM (B0 - 128) R R U/\leM (B0 - 128) R R V):=⟨hle.mono (by rw [<-hB0',nine_two]; omega),hlu.mono oM,hlv.mono oM⟩;have HB4:=xgv hB4;have HFV:=xgv hfv;have HM:=xgv (HM.out.below hb4);have T8:=T8.below hb4;have bc:=bc.below hb4;have by_:=by_.below hb4;have hB:=nx hB hb4;clear c1 c2' c3 c4 c5 c6 hf hfh hle hlu hlv hfv hB4 hB0';go_upto_region 4 with (fail)
 refine wp_world ?_;intro W5 hW5;obtain ⟨hB5,T9,hs5⟩:=world1 hW5;have HM:=xgv (HM.out.below hB5);have HFV:=xgv (HFV.out.below hB5);have T8:=T8.below hB5;have bc:=bc.below hB5;have by_:=by_.below hB5;have hB:=nx hB hB5;obtain ⟨x1,x2,x3,ex,g1,g2,g3⟩:=HFV.out.ex;injection ex with ex
 simp only [Array.mk.injEq,List.cons.injEq,and_true,true_and] at ex;obtain ⟨rfl,rfl,rfl⟩:=ex;have HG1 : HidS (MatV W5 (.agg #[.int .i64 R,.int .i64 C,.slice f1 f2 f3]) R C (genM R C H)):=⟨⟨_,rfl,g1⟩⟩;have HG2 : HidS (MatV W5 (.agg #[.int .i64 R,.int .i64 R,.slice f4 f5 f6]) R R (genM R R U)):=⟨⟨_,rfl,g2⟩⟩;have HG3 : HidS (MatV W5 (.agg #[.int .i64 R,.int .i64 R,.slice f7 f8 f9]) R R (genM R R V)):=⟨⟨_,rfl,g3⟩⟩;have HOK : HidS (okF BD R C H/\okF BD R R U/\okF BD R R V):=⟨HLE.out.1.ok (by have:=HB4.out.2.1; omega),HLE.out.2.1.ok (by have:=HB4.out.2.1; omega),HLE.out.2.2.ok (by have:=HB4.out.2.1; omega)⟩;obtain ⟨q0,q1,q2,q3,q4,q5,q6,q7,q8⟩:=T9.nine;have hl1:=lastsB_three W5.heap.size R C H U V;have hl2:=lastsB_newC tHe W5.heap.size #[.int .i64 0,.int .i64 0,.slice none 0 0,.int .i64 0,.int .i64 0,.slice none 0 0,.int .i64 0,.int .i64 0,.slice none 0 0];clear hW5 g1 g2 g3;refine wp_region_headed 11 rfl (RG W5 _ [⟨0,22,fun _ v=>v = .pointer (some ⟨w4.heap.size,0,none⟩)⟩,⟨1,23,fun _ v=>v = .agg #[.int .i64 R,.int .i64 C,.slice f1 f2 f3]⟩,⟨3,25,fun _ v=>v = .pointer (some ⟨w4.heap.size,3,none⟩)⟩,⟨4,26,fun _ v=>v = .agg #[.int .i64 R,.int .i64 R,.slice f4 f5 f6]⟩,⟨6,28,fun _ v=>v = .pointer (some ⟨w4.heap.size,6,none⟩)⟩,⟨7,29,fun _ v=>v = .agg #[.int .i64 R,.int .i64 R,.slice f7 f8 f9]⟩,⟨9,31,ThreeV W5.heap.size R C H U V⟩,⟨10,10,NewC tHe W5.heap.size #[.int .i64 0,.int .i64 0,.slice none 0 0,.int .i64 0,.int .i64 0,.slice none 0 0,.int .i64 0,.int .i64 0,.slice none 0 0]⟩] [⟨2,24,R,C,H⟩,⟨5,27,R,R,U⟩,⟨8,30,R,R,V⟩]) kR RG.start ?fin1 ?steps1
 case steps1=>
  refine ⟨?_,?_,?_,?_,?_,?_,?_,?_,?_,?_,?_,trivial⟩ <;> (intro L T wS hL hd hcl hI K hK; try refine step_wanted rfl ?_)
  ·have zt : T[9]? = some (.pointer (some ⟨w4.heap.size,0,none⟩)):=hI.keep 9 sI sI
   go_simp;exact hK _ _ (hI.y mm0 rfl)
  ·obtain ⟨_,zt0,rfl⟩:=hI.v mm0 (hd 0)
   have cc0:=hI.cell q0;have cc1:=hI.cell q1;have cc2:=hI.cell q2;go_simp;exact hK _ _ (hI.y mm1 rfl)
  ·obtain ⟨_,zt1,rfl⟩:=hI.v mm1 (hd 1)
   go_simp;refine (r5copiedF _ _ (HG1.out.below hI.bel) oM oM HOK.out.1).mono ?_;rintro e wa ⟨v,rfl,hv,hba⟩;exact hK _ _ (hI.mat hcl hL ⟨2,24,_,_,_⟩ mm0 rfl hba hv kR)
  ·have zt : T[9]? = some (.pointer (some ⟨w4.heap.size,0,none⟩)):=hI.keep 9 sI sI
   go_simp;exact hK _ _ (hI.y mm2 rfl)
  ·obtain ⟨_,zt3,rfl⟩:=hI.v mm2 (hd 3)
   have cc0:=hI.cell q3;have cc1:=hI.cell q4;have cc2:=hI.cell q5;go_simp;exact hK _ _ (hI.y mm3 rfl)
  ·obtain ⟨_,zt4,rfl⟩:=hI.v mm3 (hd 4)
   go_simp;refine (r5copiedF _ _ (HG2.out.below hI.bel) oM oM HOK.out.2.1).mono ?_;rintro e wa ⟨v,rfl,hv,hba⟩;exact hK _ _ (hI.mat hcl hL ⟨5,27,_,_,_⟩ mm1 rfl hba hv kR)
  ·have zt : T[9]? = some (.pointer (some ⟨w4.heap.size,0,none⟩)):=hI.keep 9 sI sI
   go_simp;exact hK _ _ (hI.y mm4 rfl)
  ·obtain ⟨_,zt6,rfl⟩:=hI.v mm4 (hd 6)
   have cc0:=hI.cell q6;have cc1:=hI.cell q7;have cc2:=hI.cell q8;go_simp;exact hK _ _ (hI.y mm5 rfl)
  ·obtain ⟨_,zt7,rfl⟩:=hI.v mm5 (hd 7)
   go_simp;refine (r5copiedF _ _ (HG3.out.below hI.bel) oM oM HOK.out.2.2).mono ?_;rintro e wa ⟨v,rfl,hv,hba⟩;exact hK _ _ (hI.mat hcl hL ⟨8,30,_,_,_⟩ mm2 rfl hba hv kR)
  ·obtain ⟨so,sc,uo,uc,vo,vc,t1,t2,t3,hthree⟩:=hI.three oM oM (hd 2) (hd 5) (hd 8)
   go_simp;exact hK _ _ (hI.y mm6 hthree)
  ·go_simp
   exact hK _ _ ((hI.world ((Below.refl _ _).alloc (xgf _) _)).y mm7 ⟨_,rfl,hI.bel.size,Blk.new _ _ _⟩)
 intro T w6 hI;obtain ⟨va0,q0,rfl⟩:=hI.v mm0 rfl;obtain ⟨va1,q1,rfl⟩:=hI.v mm1 rfl;obtain ⟨va3,q3,rfl⟩:=hI.v mm2 rfl;obtain ⟨va4,q4,rfl⟩:=hI.v mm3 rfl;obtain ⟨va6,q6,rfl⟩:=hI.v mm4 rfl;obtain ⟨va7,q7,rfl⟩:=hI.v mm5 rfl;obtain ⟨va9,q9,ha9⟩:=hI.v mm6 rfl;obtain ⟨va10,q10,ha10⟩:=hI.v mm7 rfl;obtain ⟨va2,q2,moa2,mca2,mea2⟩:=hI.matv _ mm0 rfl;obtain ⟨va5,q5,moa5,mca5,mea5⟩:=hI.matv _ mm1 rfl;obtain ⟨va8,q8,moa8,mca8,mea8⟩:=hI.matv _ mm2 rfl;have hT:=tmps_set [(22,.pointer (some ⟨w4.heap.size,0,none⟩)),(23,.agg #[.int .i64 R,.int .i64 C,.slice f1 f2 f3]),(25,.pointer (some ⟨w4.heap.size,3,none⟩)),(26,.agg #[.int .i64 R,.int .i64 R,.slice f4 f5 f6]),(28,.pointer (some ⟨w4.heap.size,6,none⟩)),(29,.agg #[.int .i64 R,.int .i64 R,.slice f7 f8 f9]),(31,va9),(10,va10),(24,va2),(27,va5),(30,va8)]
  (fun j hj=>hI.keep j (by simp only [xgm] at hj ⊢; simp [hj]) (by simp only [xgm] at hj ⊢; simp [hj]))
  (by simp only [xgm]; simp [q0,q1,q3,q4,q6,q7,q9,q10,q2,q5,q8]) hI.size
 have hbw6:=hI.bel;clear hI;simp only [List.foldl_cons,List.foldl_nil,xgh,xgi,xgj,ptr] at hT;subst hT;clear q0 q1 q3 q4 q6 q7 q9 q10 q2 q5 q8;simp only [xgl,xgk];have ha9' : ThreeV W5.heap.size R C H U V w6 va9:=ha9;obtain ⟨so,sc,uo,uc,vo,vc,bm,bu,bv,rfl,w1',w2',w3',wz,a1,a2,a3⟩:=ha9'.ex;obtain ⟨bg,rfl,hgb,hgk⟩ : NewC tHe W5.heap.size #[.int .i64 0,.int .i64 0,.slice none 0 0,.int .i64 0,.int .i64 0,.slice none 0 0,.int .i64 0,.int .i64 0,.slice none 0 0] w6 va10:=ha10;obtain ⟨⟨e0,e1,e2,e3,e4,e5,e6,e7,e8⟩,⟨n0,n1,n2,n3,n4,n5,n6,n7,n8⟩⟩:=hgk.all9;have z1:=w1'.nzb hgk dE dE;have z2:=w2'.nzb hgk dE dE;have z3:=w3'.nzb hgk dE dE;clear q0 q1 q2 q3 q4 q5 q6 q7 q8 hl1 hl2;clear mea2 mea5 mea8;go_upto_region 5 with (fail)
 refine wp_world ?_;intro W7 hW7;have hblk : Blk W7 bg tHe #[.int .i64 R,.int .i64 C,.slice so R sc,.int .i64 R,.int .i64 R,.slice uo R uc,.int .i64 R,.int .i64 R,.slice vo R vc]:=by rw [hW7.out]; exact hgk.put9 _ _ _ _ _ _ _ _ _
 have hO7 : OnlyZ (fun b=>b = bg) w6 W7:=by rw [hW7.out]; exact ⟨below9 (Below.refl _ _) (Nat.zero_le _) _ _ _ _ _ _ _ _ _,hgk.lext9 dE _ _ _ _ _ _ _ _ _,fun b _ hb=>set9_old _ _ _ _ _ _ _ _ _ _ _ _ hb⟩
 have hc9 : C9 W7 bg (.slice so R sc) (.slice uo R uc) (.slice vo R vc) R C bm bu bv H U V:=⟨hblk,w1'.keep1 hO7 z1,w2'.keep1 hO7 z2,w3'.keep1 hO7 z3,a1,a2,a3⟩;have HM5:=xgv HM.out;have HFV5:=xgv HFV.out;have T85:=T8;have T95:=T9;have by5:=by_;have hB50:=hB;have hC7:=below_only hbw6 (hO7.mono (Z':=fun k=>W5.heap.size<=k) fun k _ hk=>by rw [hk]; exact hgb) (xgf _) hbw6.size;have HM:=xgv (HM.out.below hC7);have HFV:=xgv (HFV.out.below hC7);have T8:=T8.below hC7;have T9:=T9.below hC7;have bc:=bc.below hC7;have by_:=by_.below hC7;have hB:=nx hB hC7;obtain ⟨q0,q1,q2,q3,q4,q5,q6,q7,q8⟩:=hblk.nine;clear hW7 w1' w2' w3' hO7 z1 z2 z3 a1 a2 a3 hgk e0 e1 e2 e3 e4 e5 e6 e7 e8 n0 n1 n2 n3 n4 n5 n6 n7 n8 hblk HG1 HG2 HG3;go_upto_region 6 with (fail)
 refine wp_world ?_;intro W8 hW8;obtain ⟨hB8,T11,hs8⟩:=world1 hW8;have HM:=xgv (HM.out.below hB8);have HFV:=xgv (HFV.out.below hB8);have T8:=T8.below hB8;have T9:=T9.below hB8;have bc:=bc.below hB8;have by_:=by_.below hB8;have hc9:=hc9.below hB8;have hB:=nx hB hB8;have d0 : W8.cell? ⟨w.heap.size + 1,0,none⟩ = some (.int .u8 mi):=bc.cell 0;obtain ⟨op,hop⟩ : ∃op : Nat,op = mi % 3:=⟨_,rfl⟩;have hop3 : op < 3:=by omega
 have hpo : (mi : Int) % 3 = (op : Int):=by omega
 obtain ⟨NC,xo,xk,k1,k2,k3,hNC,hsel⟩:=hc9.sel (B:=B0) wz HLE.out.1 HLE.out.2.1 HLE.out.2.2 oM hop3 _ rfl;have HSEL:=xgv hsel;have x0:=(T11.cell (op * 3)).trans k1;have x1:=(T11.cell (op * 3 + 1)).trans k2;have x2:=(T11.cell (op * 3 + 2)).trans k3;clear hW8 hop k1 k2 k3 hsel;have hC8:=nx hC7 hB8;have HG9:=xgv (hc9.g (B:=B0) (HLE.out.1.mono oM) (HLE.out.2.1.mono oM) (HLE.out.2.2.mono oM));go_upto_region 7 with (fail)
 rename_i K1 hK1 K0 hK0;refine wp_world ?_;intro W9 hW9;obtain ⟨hB9,T12,hs9⟩:=world1 hW9;have bc:=bc.below hB9;have hC9:=nx hC8 hB9;have HG9:=xgv (HG9.out.below hB9);have body : ∀{u11 u12 u13 u14 u15 u16 u17 u18 u19 u20 u21 u22 u23 u24 u25 u26 u27 u28 u29 u30 u31 u32 u33 u34 u35 u36 u37 u38 u39 u40 u41 u42 u43 u44 u45 u46 u47 u48 u49 u50 u51 u52 u53 u54 u55 u56 u57 u58 u59 u60 u61 u62 u63 u64 u65 u66 u67 u68 u69 u70 u71 u72 u73 u74 u75 u76 u77 u78 u79 u80 u81 u82 u83 u84 u85 u86 u87 u88 u89 u90 u91 u92 u93 u94 u95 u96 u97 u98 u99 u100 u101 u102 u103 u104 u105 u106 u107 u108 u109 u110 u111 u112 u113 u114 u115 u116 u117 u118 u119 u120 u121 u122 u123 u124 : Value} (wX : World),Below W5.heap.size W5 wX->G9 wX bg R C B0->K1 { tmps:=#[.agg #[.int .u8 r,.int .u8 c,.slice ao n cap],.agg #[.int .u8 mi,.int .u8 pi,.int .u8 qi,.int .i8 k],.agg #[.int .u8 r2,.int .u8 c2,.slice yo yn ycap],.pointer (some ⟨w.heap.size,0,none⟩),.pointer (some ⟨w.heap.size + 1,0,none⟩),.pointer (some ⟨w.heap.size + 1 + 1,0,none⟩),.bool false,.bool true,.pointer (some ⟨w2.heap.size,0,none⟩),.pointer (some ⟨w4.heap.size,0,none⟩),.pointer (some ⟨bg,0,none⟩),u11,u12,u13,u14,u15,u16,u17,u18,u19,u20,u21,u22,u23,u24,u25,u26,u27,u28,u29,u30,u31,u32,u33,u34,u35,u36,u37,u38,u39,u40,u41,u42,u43,u44,u45,u46,u47,u48,u49,u50,u51,u52,u53,u54,u55,u56,u57,u58,u59,u60,u61,u62,u63,u64,u65,u66,u67,u68,u69,u70,u71,u72,u73,u74,u75,u76,u77,u78,u79,u80,u81,u82,u83,u84,u85,u86,u87,u88,u89,u90,u91,u92,u93,u94,u95,u96,u97,u98,u99,u100,u101,u102,u103,u104,u105,u106,u107,u108,u109,u110,u111,u112,u113,u114,u115,u116,u117,u118,u119,u120,u121,u122,u123,u124],defers:=[] } wX:=by
  intro u11 u12 u13 u14 u15 u16 u17 u18 u19 u20 u21 u22 u23 u24 u25 u26 u27 u28 u29 u30 u31 u32 u33 u34 u35 u36 u37 u38 u39 u40 u41 u42 u43 u44 u45 u46 u47 u48 u49 u50 u51 u52 u53 u54 u55 u56 u57 u58 u59 u60 u61 u62 u63 u64 u65 u66 u67 u68 u69 u70 u71 u72 u73 u74 u75 u76 u77 u78 u79 u80 u81 u82 u83 u84 u85 u86 u87 u88 u89 u90 u91 u92 u93 u94 u95 u96 u97 u98 u99 u100 u101 u102 u103 u104 u105 u106 u107 u108 u109 u110 u111 u112 u113 u114 u115 u116 u117 u118 u119 u120 u121 u122 u123 u124 wX hCX hgX;refine hK1 _ _ ?_;clear hK1 hK0 T12 x0 x1 x2 d0 T11 hc9 HSEL HG9 hC9 hB9 hC8 hC7 bc by_ T8 T9 HM HFV;have HM:=xgv (HM5.out.below hCX);have HFV:=xgv (HFV5.out.below hCX);have T8:=T85.below hCX;have T9:=T95.below hCX;have by_:=by5.below hCX;have hB:=nx hB50 hCX;obtain ⟨y1,y2,y3,-⟩:=by_.three;go_wp2_with fail
  refine (HMade2.out wX (h2.below hB)).mono ?_;rintro e wY ⟨vb,rfl,hm2,hbY⟩;obtain ⟨so2,sn2,sc2,rfl⟩:=hm2.agg;clear y1 y2 y3;go_upto_region 12 with (fail)
  refine wp_world ?_;intro WC hWC;obtain ⟨hBC,T15,hsC⟩:=world1 hWC;have HM2:=xgv (hm2.below hBC);have hBXC:=nx hbY hBC;have HM:=xgv (HM.out.below hBXC);have HFV:=xgv (HFV.out.below hBXC);have T8:=T8.below hBXC;have T9:=T9.below hBXC;have hgX:=hgX.below hBXC;have hB:=nx hB hBXC;obtain ⟨q0,q1,q2,q3,q4,q5,q6,q7,q8⟩:=T9.nine;clear hWC hm2;go_upto_region 13 with (fail)
  refine wp_world ?_;intro WD hWD;obtain ⟨hBD,T16,hsD⟩:=world1 hWD;have HM2:=xgv (HM2.out.below hBD);have HM:=xgv (HM.out.below hBD);have HFV:=xgv (HFV.out.below hBD);have T8:=T8.below hBD;have T9:=T9.below hBD;have T15:=T15.below hBD;have hgX:=hgX.below hBD;have hB:=nx hB hBD;clear hWD q0 q1 q2 q3 q4 q5 q6 q7 q8;obtain ⟨AM,AU,AV,S,T,VV,T10,hr1,hr2',hr3,hl1,hl2,hl3⟩:=hgX.ex;obtain ⟨o1,n1,k1,rfl,-⟩:=id hr1;obtain ⟨o2,n2,k2,rfl,-⟩:=id hr2';obtain ⟨o3,n3,k3,rfl,-⟩:=id hr3;have HGV : HidS (HermW WD (.agg #[.int .i64 R,.int .i64 C,.slice o1 n1 k1,.int .i64 R,.int .i64 R,.slice o2 n2 k2,.int .i64 R,.int .i64 R,.slice o3 n3 k3]) R C (genM R C S) R R (genM R R T) R R (genM R R VV)):=⟨⟨_,_,_,rfl,hr1,hr2',hr3⟩⟩;have HSV : HidS (HermW WD (.agg #[.int .i64 R,.int .i64 C,.slice f1 f2 f3,.int .i64 R,.int .i64 R,.slice f4 f5 f6,.int .i64 0,.int .i64 0,.slice none 0 0]) R C (genM R C H) R R (genM R R U) 0 0 []):=⟨by
   obtain ⟨a,b,c',e,j1,j2,j3⟩:=HFV.out.ex;injection e with e
   simp only [Array.mk.injEq,List.cons.injEq,and_true,true_and] at e;obtain ⟨rfl,rfl,rfl⟩:=e;exact ⟨_,_,_,rfl,j1,j2,RowsV.nil _⟩⟩
  obtain ⟨dG,hdG⟩:=bool_of (ChkP R C M R C (genM R C S) R R (genM R R T) R R (genM R R VV));obtain ⟨dB,hdB⟩:=bool_of (ChkP R2 C2 M2 R C (genM R C H) R R (genM R R U) R R (genM R R V));obtain ⟨d3,hd3⟩ : ∃d,decide ((R : Int) = 0) = d:=⟨_,rfl⟩;have HDG:=xgv hdG;have HDB:=xgv hdB;have HD3:=xgv hd3;have HD3' : HidS (d3 = true ↔ ChkP R C M R C (genM R C H) R R (genM R R U) 0 0 []):=⟨by
   rw [small_iff HG.out,<-HD3.out,decide_eq_true_iff];omega⟩
  have HSS : HidS (∀r ∈ genM R C S,∀z ∈ r,Sm z):=⟨genM_all fun a ha b hb=>BD_sm (Nat.lt_of_le_of_lt (hl1 a ha b hb) HB4.out.2.1)⟩;have HMG1 : HidS (MulSm (genM R R T) M R R C):=⟨by
   rw [fits_genM HF.out];exact mulSm_gen hl2 (HA9.out.mono (Nat.le_trans dE HB4.out.2.2)) hR4 HB4.out.2.1 HB4.out.2.1 HB4.out.1⟩
  have HMG2 : HidS (MulSm (genM R R T) (genM R R VV) R R R):=⟨mulSm_gen hl2 hl3 hR4 HB4.out.2.1 HB4.out.2.1 HB4.out.1⟩;have HMB1 : HidS (Fits R2 R2 (genM R R U)->MulSm (genM R R U) M2 R2 R2 C2):=⟨fun hf=>by
   obtain rfl : R2 = R:=hf.1.symm.trans (genM_fits R R U).1;rw [fits_genM HF2.out];exact mulSm_gen (HLE.out.2.1.mono (by omega : B0 - 128<=B0)) (HA2.out.mono (Nat.le_trans dE HB4.out.2.2)) hR4 HB4.out.2.1 HB4.out.2.1 HB4.out.1⟩
  have HMB2 : HidS (Fits R2 R2 (genM R R U)->MulSm (genM R R U) (genM R R V) R2 R2 R2):=⟨fun hf=>by
   obtain rfl : R2 = R:=hf.1.symm.trans (genM_fits R R U).1;exact mulSm_gen (HLE.out.2.1.mono (by omega : B0 - 128<=B0)) (HLE.out.2.2.mono (by omega : B0 - 128<=B0)) hR4 HB4.out.2.1 HB4.out.2.1 HB4.out.1⟩
  have HMS2 : HidS (Fits R R []->MulSm (genM R R U) [] R R R):=⟨fun hf=>by
   have : R = 0:=by have:=hf.1; simpa using this.symm
   intro i hi;omega⟩
  obtain ⟨c1,c2',c3,-⟩:=T8.three;obtain ⟨q0,q1,q2,q3,q4,q5,q6,q7,q8⟩:=T9.nine;obtain ⟨g0,g1,g2,g3,g4,g5,g6,g7,g8⟩:=T10.nine;obtain ⟨t1,t2,t3,-⟩:=T15.three;obtain ⟨s0,s1,s2,s3,s4,s5,s6,s7,s8⟩:=T16.nine;clear hdG hdB hd3 hr1 hr2' hr3 hl1 hl2 hl3 hgX;refine wp_region_each rfl (RV WD _ [E 0 92 (.bool true),E 1 93 (.bool true),E 2 94 (.agg #[.int .i64 R,.int .i64 C,.slice ro rn rc]),E 3 95 (.agg #[.int .i64 R,.int .i64 C,.slice f1 f2 f3,.int .i64 R,.int .i64 R,.slice f4 f5 f6,.int .i64 R,.int .i64 R,.slice f7 f8 f9]),E 4 96 (.bool true),E 5 97 (.bool true),E 6 98 (.bool true),E 7 99 (.agg #[.int .i64 R,.int .i64 C,.slice ro rn rc]),E 8 100 (.agg #[.int .i64 R,.int .i64 C,.slice o1 n1 k1,.int .i64 R,.int .i64 R,.slice o2 n2 k2,.int .i64 R,.int .i64 R,.slice o3 n3 k3]),E 9 101 (.bool dG),E 10 102 (.agg #[.int .i64 R,.int .i64 C,.slice ro rn rc]),E 11 103 (.agg #[.int .i64 R,.int .i64 C,.slice o1 n1 k1,.int .i64 R,.int .i64 R,.slice o2 n2 k2,.int .i64 R,.int .i64 R,.slice o3 n3 k3]),E 12 104 (.bool dG),E 13 105 (.bool true),E 14 106 (.bool true),E 15 107 (.bool true),E 16 108 (.agg #[.int .i64 R2,.int .i64 C2,.slice so2 sn2 sc2]),E 17 109 (.agg #[.int .i64 R,.int .i64 C,.slice f1 f2 f3,.int .i64 R,.int .i64 R,.slice f4 f5 f6,.int .i64 R,.int .i64 R,.slice f7 f8 f9]),E 18 110 (.bool dB),E 19 111 (.agg #[.int .i64 R2,.int .i64 C2,.slice so2 sn2 sc2]),E 20 112 (.agg #[.int .i64 R,.int .i64 C,.slice f1 f2 f3,.int .i64 R,.int .i64 R,.slice f4 f5 f6,.int .i64 R,.int .i64 R,.slice f7 f8 f9]),E 21 113 (.bool dB),E 22 114 (.bool true),E 23 115 (.bool true),E 24 116 (.bool true),E 25 117 (.agg #[.int .i64 R,.int .i64 C,.slice ro rn rc]),E 26 118 (.agg #[.int .i64 R,.int .i64 C,.slice f1 f2 f3,.int .i64 R,.int .i64 R,.slice f4 f5 f6,.int .i64 0,.int .i64 0,.slice none 0 0]),E 27 119 (.bool d3),VP 28 120 w2.heap.size 0,VN 29 121 R,E 30 122 (.bool d3),E 31 123 (.bool true),E 32 124 (.bool true),E 33 6 (.bool true)]) kR RV.start (RV.fin kR ?fin2) ?steps2
  case steps2=>
   refine ⟨?_,?_,?_,?_,?_,?_,?_,?_,?_,?_,?_,?_,?_,?_,?_,?_,?_,?_,?_,?_,?_,?_,?_,?_,?_,?_,?_,?_,?_,?_,?_,?_,?_,?_,trivial⟩ <;> (intro L T wS hL hd hcl hI K hK; try refine step_wanted rfl ?_)
   ·exact xgs (hI.k 7 rfl kR)
   ·exact xgs (hI.e mm0 (hd 0))
   ·have zg:=hI.e mm1 (hd 1)
    refine step_wanted xgp ?_;have zt:=hI.k 8 rfl kR;have cc0:=hI.cell c1;have cc1:=hI.cell c2';have cc2:=hI.cell c3; exact xgu
   ·have zg:=hI.e mm1 (hd 1)
    refine step_wanted xgp ?_;have zt:=hI.k 9 rfl kR;have cc0:=hI.cell q0;have cc1:=hI.cell q1;have cc2:=hI.cell q2;have cc3:=hI.cell q3;have cc4:=hI.cell q4;have cc5:=hI.cell q5;have cc6:=hI.cell q6;have cc7:=hI.cell q7;have cc8:=hI.cell q8; exact xgu
   ·have zg:=hI.e mm1 (hd 1)
    refine step_wanted xgp ?_;have zt2:=hI.e mm2 (hd 2);have zt3:=hI.e mm3 (hd 3);go_simp;refine (hcheckT _ _ R C _ _ _ _ _ (HM.out.below hI.bel) HF.out (HFV.out.below hI.bel) hR4 hC4 HG.out).mono ?_;rintro e wa ⟨v,rfl,hv,hba⟩;exact hK _ _ ((hI.world hba).y mm4 hv)
   ·exact xgt (hI.e mm1 (hd 1)) (hI.e mm4 (hd 4))
   ·exact xgs (hI.e mm5 (hd 5))
   ·have zg:=hI.e mm6 (hd 6)
    refine step_wanted xgp ?_;have zt:=hI.k 8 rfl kR;have cc0:=hI.cell c1;have cc1:=hI.cell c2';have cc2:=hI.cell c3; exact xgu
   ·have zg:=hI.e mm6 (hd 6)
    refine step_wanted xgp ?_;have zt:=hI.k 10 rfl kR;have cc0:=hI.cell g0;have cc1:=hI.cell g1;have cc2:=hI.cell g2;have cc3:=hI.cell g3;have cc4:=hI.cell g4;have cc5:=hI.cell g5;have cc6:=hI.cell g6;have cc7:=hI.cell g7;have cc8:=hI.cell g8; exact xgu
   ·have zg:=hI.e mm6 (hd 6)
    refine step_wanted xgp ?_;have zt7:=hI.e mm7 (hd 7);have zt8:=hI.e mm8 (hd 8);go_simp;refine (hcheckD _ _ R C _ _ _ _ _ _ _ _ _ _ dG _ (HM.out.below hI.bel) HF.out (HGV.out.below hI.bel) hR4 hC4 (fun _=>HMG1.out) (fun _ _=>HMG2.out) HDG.out).mono ?_;rintro e wa ⟨v,rfl,hv,hba⟩;exact hK _ _ ((hI.world hba).y mm9 hv)
   ·have zg:=hI.e mm6 (hd 6)
    refine step_wanted xgp ?_;have zt:=hI.k 8 rfl kR;have cc0:=hI.cell c1;have cc1:=hI.cell c2';have cc2:=hI.cell c3; exact xgu
   ·have zg:=hI.e mm6 (hd 6)
    refine step_wanted xgp ?_;have zt:=hI.k 10 rfl kR;have cc0:=hI.cell g0;have cc1:=hI.cell g1;have cc2:=hI.cell g2;have cc3:=hI.cell g3;have cc4:=hI.cell g4;have cc5:=hI.cell g5;have cc6:=hI.cell g6;have cc7:=hI.cell g7;have cc8:=hI.cell g8; exact xgu
   ·have zg:=hI.e mm6 (hd 6)
    refine step_wanted xgp ?_;have zt10:=hI.e mm10 (hd 10);have zt11:=hI.e mm11 (hd 11);go_simp;refine (r12checkD _ _ R C _ _ _ _ _ _ _ _ _ _ dG _ (HM.out.below hI.bel) HF.out (HGV.out.below hI.bel) hR4 hC4 HSS.out (fun _=>HMG1.out) (fun _ _=>HMG2.out) HDG.out).mono ?_;rintro e wa ⟨v,rfl,hv,hba⟩;exact hK _ _ ((hI.world hba).y mm12 hv)
   ·have zg:=hI.e mm6 (hd 6)
    refine step_wanted xgp ?_;exact xgt (hI.e mm9 (hd 9)) (hI.e mm12 (hd 12))
   ·exact xgt (hI.e mm6 (hd 6)) (hI.e mm13 (hd 13))
   ·exact xgs (hI.e mm14 (hd 14))
   ·have zg:=hI.e mm15 (hd 15)
    refine step_wanted xgp ?_;have zt:=hI.k 15 rfl kR;have cc0:=hI.cell t1;have cc1:=hI.cell t2;have cc2:=hI.cell t3; exact xgu
   ·have zg:=hI.e mm15 (hd 15)
    refine step_wanted xgp ?_;have zt:=hI.k 9 rfl kR;have cc0:=hI.cell q0;have cc1:=hI.cell q1;have cc2:=hI.cell q2;have cc3:=hI.cell q3;have cc4:=hI.cell q4;have cc5:=hI.cell q5;have cc6:=hI.cell q6;have cc7:=hI.cell q7;have cc8:=hI.cell q8; exact xgu
   ·have zg:=hI.e mm15 (hd 15)
    refine step_wanted xgp ?_;have zt16:=hI.e mm16 (hd 16);have zt17:=hI.e mm17 (hd 17);go_simp;refine (hcheckD _ _ R2 C2 _ _ _ _ _ _ _ _ _ _ dB _ (HM2.out.below hI.bel) HF2.out (HFV.out.below hI.bel).told hR24 hC24 HMB1.out (fun h1 _=>HMB2.out h1) HDB.out).mono ?_;rintro e wa ⟨v,rfl,hv,hba⟩;exact hK _ _ ((hI.world hba).y mm18 hv)
   ·have zg:=hI.e mm15 (hd 15)
    refine step_wanted xgp ?_;have zt:=hI.k 15 rfl kR;have cc0:=hI.cell t1;have cc1:=hI.cell t2;have cc2:=hI.cell t3; exact xgu
   ·have zg:=hI.e mm15 (hd 15)
    refine step_wanted xgp ?_;have zt:=hI.k 9 rfl kR;have cc0:=hI.cell q0;have cc1:=hI.cell q1;have cc2:=hI.cell q2;have cc3:=hI.cell q3;have cc4:=hI.cell q4;have cc5:=hI.cell q5;have cc6:=hI.cell q6;have cc7:=hI.cell q7;have cc8:=hI.cell q8; exact xgu
   ·have zg:=hI.e mm15 (hd 15)
    refine step_wanted xgp ?_;have zt19:=hI.e mm19 (hd 19);have zt20:=hI.e mm20 (hd 20);go_simp;refine (r12checkD _ _ R2 C2 _ _ _ _ _ _ _ _ _ _ dB _ (HM2.out.below hI.bel) HF2.out (HFV.out.below hI.bel).told hR24 hC24 HG.out.sh HMB1.out (fun h1 _=>HMB2.out h1) HDB.out).mono ?_;rintro e wa ⟨v,rfl,hv,hba⟩;exact hK _ _ ((hI.world hba).y mm21 hv)
   ·have zg:=hI.e mm15 (hd 15)
    refine step_wanted xgp ?_;exact xgt (hI.e mm18 (hd 18)) (hI.e mm21 (hd 21))
   ·exact xgt (hI.e mm15 (hd 15)) (hI.e mm22 (hd 22))
   ·exact xgs (hI.e mm23 (hd 23))
   ·have zg:=hI.e mm24 (hd 24)
    refine step_wanted xgp ?_;have zt:=hI.k 8 rfl kR;have cc0:=hI.cell c1;have cc1:=hI.cell c2';have cc2:=hI.cell c3; exact xgu
   ·have zg:=hI.e mm24 (hd 24)
    refine step_wanted xgp ?_;have zt:=hI.k 16 rfl kR;have cc0:=hI.cell s0;have cc1:=hI.cell s1;have cc2:=hI.cell s2;have cc3:=hI.cell s3;have cc4:=hI.cell s4;have cc5:=hI.cell s5;have cc6:=hI.cell s6;have cc7:=hI.cell s7;have cc8:=hI.cell s8; exact xgu
   ·have zg:=hI.e mm24 (hd 24)
    refine step_wanted xgp ?_;have zt25:=hI.e mm25 (hd 25);have zt26:=hI.e mm26 (hd 26);go_simp;refine (hcheckD _ _ R C _ _ _ _ _ _ _ _ _ _ d3 _ (HM.out.below hI.bel) HF.out (HSV.out.below hI.bel) hR4 hC4 (fun _=>HG.out.m1) (fun _ h2=>HMS2.out h2) HD3'.out).mono ?_;rintro e wa ⟨v,rfl,hv,hba⟩;exact hK _ _ ((hI.world hba).y mm27 hv)
   ·have zg:=hI.e mm24 (hd 24)
    refine step_wanted xgp ?_;exact xgs (hI.k 8 rfl kR)
   ·have zg:=hI.e mm24 (hd 24)
    refine step_wanted xgp ?_;have zt28:=hI.e mm28 (hd 28);have cc0:=hI.cell c1; exact xgu
   ·have zg:=hI.e mm24 (hd 24)
    refine step_wanted xgp ?_;have zt29:=hI.e mm29 (hd 29);go_simp;exact hK _ _ (hI.y mm30 (congrArg Value.bool HD3.out))
   ·have zg:=hI.e mm24 (hd 24)
    refine step_wanted xgp ?_;exact xgt (hI.e mm27 (hd 27)) (hI.e mm30 (hd 30))
   ·exact xgt (hI.e mm24 (hd 24)) (hI.e mm31 (hd 31))
   ·exact xgs (hI.e mm32 (hd 32))
  intro wE hbwE T hT;simp only [Fin,E,EI,VP,VSl,VN,xgg,xgh,xgi,xgj] at hT;subst hT;have hBF:=nx hB hbwE;go_wp2;go_ret;exact ⟨rfl,hBF⟩
 have HBODY:=xgv @body;clear body hK1 T11 x0 x1 x2 d0 hW9;obtain ⟨c1,c2',c3,c4,c5,c6⟩:=T12.three;have d1 : W9.cell? ⟨w.heap.size + 1,1,none⟩ = some (.int .u8 pi):=bc.cell 1;have d2 : W9.cell? ⟨w.heap.size + 1,2,none⟩ = some (.int .u8 qi):=bc.cell 2;have d3 : W9.cell? ⟨w.heap.size + 1,3,none⟩ = some (.int .i8 k):=bc.cell 3;have lbc:=bc.lt;have lT12:=T12.lt;by_cases hRC : 0 < R/\0 < NC
 ·obtain ⟨hR0,hC0⟩:=hRC
  obtain ⟨i,hi'⟩ : ∃i : Nat,i = pi % R:=⟨_,rfl⟩;obtain ⟨j,hj'⟩ : ∃j : Nat,j = qi % NC:=⟨_,rfl⟩;have hi : i < R:=by rw [hi']; exact Nat.mod_lt _ hR0
  have hj : j < NC:=by rw [hj']; exact Nat.mod_lt _ hC0
  have hpi' : (pi : Int) % (R : Int) = (i : Int):=by rw [hi']; rfl
  have hqj : (qi : Int) % (NC : Int) = (j : Int):=by rw [hj']; rfl
  have hzR : ¬ ((R : Int) = 0):=by omega
  have hzC : ¬ ((NC : Int) = 0):=by omega
  have hwp : IntKind.i64.wrap (pi : Int) = (pi : Int):=IntWalk.i64_in _ oM;have hwq : IntKind.i64.wrap (qi : Int) = (qi : Int):=IntWalk.i64_in _ oM;clear hi' hj';go_upto_region 10 with (fail)
  rw [hpi',hqj];obtain ⟨g,b,xs,xa,xl,xc,z,rfl,hg,hn0,hbo,o1,p1,p2,hx,hzb,hput⟩:=HSEL.out W9 hB9 i j hi hj;have HPUT:=xgv hput;have HSZ : HidS (Sm z/\Sm k):=⟨BD_sm (by have:=HB4.out.2.1; omega),BD_sm (bd90 (show k.natAbs<=2 ^ 90 from Nat.le_trans (show k.natAbs<=128 by omega) dE))⟩;have hwk : HidS (IntKind.i64.wrap k = k):=⟨IntWalk.i64_in _ oM⟩;have hbo9 : b < W9.heap.size:=Nat.lt_of_lt_of_le hbo hB9.size;have hin : i < R:=hi;have HB9 : HidS (True/\128<=B0):=⟨trivial,HB4.out.2.2⟩;clear hpi' hqj hzR hzC hwp hwq hput;refine wp_region_headed 20 rfl (RI W9 (W9.heap.size) _ 51
    [VP 0 65 W8.heap.size 2,VSl 1 66 g R xk,VN 2 67 i,VP 3 68 g i,VSl 4 69 b NC NC,VN 5 70 j,VP 6 71 W8.heap.size 2,VSl 7 72 g R xk,VN 8 73 i,VP 9 74 g i,VSl 10 75 b NC NC,VN 11 76 j,VP 12 77 b (j * 2),E 13 78 (.agg #[.bool xs,.slice xa xl xc]),VP 14 79 (w.heap.size + 1) 3,E 15 80 (.int .i8 k),VN 16 81 k,EI 17 82 (k),EI 18 83 (z + k),VP 19 84 b (j * 2)] [] []) kR RI.start (RI.fin kR ?fin3) ?steps3
  case steps3=>
   refine ⟨?_,?_,?_,?_,?_,?_,?_,?_,?_,?_,?_,?_,?_,?_,?_,?_,?_,?_,?_,?_,trivial⟩ <;> (intro L T wS hL hd hcl hI K hK; try refine step_wanted rfl ?_)
   ·exact xgs (hI.k 12 rfl kR)
   ·have zt0:=hI.e mm0 (hd 0)
    have cc0:=hI.cell c3 oM nom; exact xgu
   ·exact xgs (hI.k 13 rfl kR)
   ·exact xgt (hI.e mm1 (hd 1)) (hI.e mm2 (hd 2))
   ·have zt3:=hI.e mm3 (hd 3)
    have cc0:=hI.cell o1 oM nom; exact xgu
   ·exact xgs (hI.k 14 rfl kR)
   ·exact xgs (hI.k 12 rfl kR)
   ·have zt6:=hI.e mm6 (hd 6)
    have cc0:=hI.cell c3 oM nom; exact xgu
   ·exact xgs (hI.k 13 rfl kR)
   ·exact xgt (hI.e mm7 (hd 7)) (hI.e mm8 (hd 8))
   ·have zt9:=hI.e mm9 (hd 9)
    have cc0:=hI.cell o1 oM nom; exact xgu
   ·exact xgs (hI.k 14 rfl kR)
   ·exact xgt (hI.e mm10 (hd 10)) (hI.e mm11 (hd 11))
   ·have zt12:=hI.e mm12 (hd 12)
    have cc0:=hI.cell p1 oM nom;have cc1:=hI.cell p2 oM nom; exact xgu
   ·exact xgs (hI.k 4 rfl kR)
   ·have zt14:=hI.e mm14 (hd 14)
    have cc0:=hI.cell d3 oM nom; exact xgu
   ·have zt15:=hI.e mm15 (hd 15)
    go_simp;exact hK _ _ (hI.y mm16 (congrArg (Value.int .i64) hwk.out))
   ·have zt16:=hI.e mm16 (hd 16)
    go_simp;refine (r1of_any k _ oM oM).mono ?_;exact xgo
   ·have zt13:=hI.e mm13 (hd 13)
    obtain ⟨v17,zt17,h17⟩:=hI.vi mm17 (hd 17);go_simp;refine (r1add_any _ _ z k _ (hx.ext hI.lext) h17 HSZ.out.1 HSZ.out.2).mono ?_;exact xgo
   ·exact xgt (hI.e mm4 (hd 4)) (hI.e mm5 (hd 5))
  intro wA hlwA hbwA holdwA T hT;simp only [Fin,E,EI,VP,VSl,VN,xgg,xgh,xgi,xgj] at hT;obtain ⟨vb17,hb17,vb18,hb18,rfl⟩:=hT;simp only [xgl,xgk];obtain ⟨pn,pa,pl,pc,px,rfl,hpx⟩:=id hb18;have HPX:=xgw hpx;obtain ⟨⟨s',a',l',k',y1,y2,y3,y4⟩,hset⟩:=HPUT.out wA hbwA;obtain ⟨hG,hOP⟩:=hset _ _ _ _ _ hb18 (by have:=HB9.out.2; omega);have hCA:=nx hC9 hbwA;have hCB:=below_only hCA (hOP.mono (Z':=fun k=>W5.heap.size<=k) fun k _ hk=>by rw [hk]; exact hn0) (xgf _) hCA.size;have HGB:=xgv (And.intro hCB hG);clear hpx p1 p2 o1 c1 c2' c3 c4 c5 c6 d1 d2 d3 hset hOP hx hG hCB hCA;go_wp2;exact HBODY.out _ HGB.out.1 HGB.out.2
 ·have HGO : HidS (∀K : Prop,(0 < R->¬ 0 < NC->K)->(¬ 0 < R->K)->K):=⟨fun K h1 h2=>by
   by_cases hs : 0 < R
   ·exact h1 hs (fun hl=>hRC ⟨hs,hl⟩)
   ·exact h2 hs⟩
  clear hRC;refine HGO.out _ ?_ ?_
  ·intro h1 h2
   go_wp2;exact HBODY.out _ hC9 HG9.out
  ·intro h1
   go_wp2;exact HBODY.out _ hC9 HG9.out
end Go.Proofs.YtgnmdddaiefooaaGreat
