/- torsionlaw12.HermiteChecks: whatever the input, it returns true, and the input reads as it did. No conditions. -/
import Derived.Test.YtgnmdddaiefooaaGreatRows
import Derived.Test.YtgnmdddaiefooaaGreatD44
import Derived.Test.YtgnmdddaiefooaaGreatX02
set_option linter.unusedVariables false
set_option linter.unusedSimpArgs false
set_option linter.unusedSectionVars false
set_option maxHeartbeats 16000000
set_option maxRecDepth 100000
namespace Go.Proofs.YtgnmdddaiefooaaGreat
open Go.ChangeShapes Go.WideShapes Go.ChangeAt Go.RowKit
theorem open_forged {H : Type} {enc : TypeId × Value->H} {w : World} {b0 : Nat} {r : Reach} {v : Value} {d : DataW H} {ps : List MemPlace} (hval : Value.okWide Tryz.prog w r b0 81 v)
  (h : DataW.Trod enc Tryz.prog w 0 (fun _=>true) true 81 v d ps) : ∃p q s : Nat,∃z : Int,v = .agg #[.int .u8 p,.int .u8 q,.int .u8 s,.int .i8 z]/\p<=255/\q<=255/\s<=255/\-128<=z/\z<=127:=by
 simp only [Value.okWide,Tryz.underlying81] at hval;obtain ⟨cs,rfl,hsz,-⟩:=hval;obtain ⟨fuel,hf⟩:=h;obtain ⟨xs,m,h0,h1,h2,h3,h4⟩:=DataW.trod_struct Tryz.underlying81 hf;have c0 : Tryz.prog.cellsOf 81 = 4:=by kernel_rfl
 have c1 : Tryz.prog.cellsOf 73 = 1:=by kernel_rfl
 have g0 : DataW.trod enc Tryz.prog w 0 (fun _=>true) true m 5 (List.take (Tryz.prog.cellsOf 5) (List.drop 0 (Value.agg cs).cells.toList)) = xs[0]?:=h4 0 _ rfl;have g1 : DataW.trod enc Tryz.prog w 0 (fun _=>true) true m 5 (List.take (Tryz.prog.cellsOf 5) (List.drop 1 (Value.agg cs).cells.toList)) = xs[1]?:=h4 1 _ rfl;have g2 : DataW.trod enc Tryz.prog w 0 (fun _=>true) true m 5 (List.take (Tryz.prog.cellsOf 5) (List.drop 2 (Value.agg cs).cells.toList)) = xs[2]?:=h4 2 _ rfl;have g3 : DataW.trod enc Tryz.prog w 0 (fun _=>true) true m 73 (List.take (Tryz.prog.cellsOf 73) (List.drop 3 (Value.agg cs).cells.toList)) = xs[3]?:=h4 3 _ rfl;rw [c0] at h2;rw [cells5] at g0 g1 g2;rw [c1] at g3;simp only [Value.cells] at g0 g1 g2 g3 h2;obtain ⟨cl⟩:=cs;match xs,h3 with
 | [y0,y1,y2,y3],_=>
  match cl,h2 with
  | [k0,k1,k2,k3],_=>
   simp at g0 g1 g2 g3;obtain ⟨a,ha,-,wa⟩:=DataW.trod_int Tryz.underlying5 g0;obtain ⟨b,hb,-,wb⟩:=DataW.trod_int Tryz.underlying5 g1;obtain ⟨c,hc,-,wc⟩:=DataW.trod_int Tryz.underlying5 g2;obtain ⟨d,hd,-,wd⟩:=DataW.trod_int Tryz.underlying73 g3;simp at ha hb hc hd;subst ha;subst hb;subst hc;subst hd;have wa:=bounds_u8 wa;have wb:=bounds_u8 wb;have wc:=bounds_u8 wc;have wd:=bounds_i8 wd;exact ⟨a.toNat,b.toNat,c.toNat,d,by rw [Int.toNat_of_nonneg wa.1,Int.toNat_of_nonneg wb.1,Int.toNat_of_nonneg wc.1],by omega,by omega,by omega,wd.1,wd.2⟩
theorem hermiteChecks_lifted (os : Os) (started : os.Started) (H : Type) (enc : TypeId × Value->H) :
  ReturnsInHanded {} Tryz.checked os 12 .any (Rows.hermiteChecksSpec.pre6 enc Tryz.prog Tryz.f12 Rows.hermiteChecksRow.domain false) (Rows.hermiteChecksSpec.post enc Tryz.prog Tryz.f12 false true false false):=by
 refine returnsInHanded_of_change (C:=Tryz.checked) Tryz.own started kR Tryz.func12
  (ChangeSpec.witness6 (enc:=enc) (C:=Tryz.checked) false ⟨#[],#[.agg #[.int .u8 0,.int .u8 0,.slice none 0 0],.agg #[.int .u8 0,.int .u8 0,.int .u8 0,.int .i8 0],.agg #[.int .u8 0,.int .u8 0,.slice none 0 0]],[]⟩ 8 kR kR kR kR) ?_
 intro W base args ds gs before hval0 hW hcnd _;have hval : ∀(j : Nat) t v,Tryz.f12.params[j]? = some t->args[j]? = some v->Value.okWide Tryz.prog W .any base t v:=hval0;have hW':=hW;obtain ⟨p,q,hA0,hV,rfl,hfz,hnd⟩:=hW;have hA : DataW.TrodAll enc Tryz.prog W 0 (fun _=>true) true Tryz.f12.params.toList args.toList ds p:=hA0;rw [Tryz.params12] at hA hval;obtain ⟨v0,v1,v2,d0,d1,d2,p0,p1,p2,rfl,rfl,rfl,h0,h1,h2⟩:=trodAll_three hA;obtain ⟨rfl,rfl⟩:=trodVars_none hV;clear hA0 hval0;simp only [List.append_nil] at hW';have hlt0 : ∀x ∈ p0,x.block < W.heap.size:=fun x hx=>hW'.lt x (by simp [hx])
 have hlt1 : ∀x ∈ p1,x.block < W.heap.size:=fun x hx=>hW'.lt x (by simp [hx])
 have hlt2 : ∀x ∈ p2,x.block < W.heap.size:=fun x hx=>hW'.lt x (by simp [hx])
 obtain ⟨a,b,sv,ls,rfl,ha,hb,hI⟩:=open_raw (hval 0 24 v0 rfl rfl) h0 hlt0;obtain ⟨x,y,z,k,rfl,hx,hy,hz,hk1,hk2⟩:=open_forged (hval 1 81 v1 rfl rfl) h1;obtain ⟨a2,b2,sv2,ls2,rfl,ha2,hb2,hI2⟩:=open_raw (hval 2 24 v2 rfl rfl) h2 hlt2;refine (hermiteChecks_any sv sv2 a b a2 b2 x y z k ls ls2 W hI hI2 ha hb ha2 hb2 hx hy hz ⟨hk1,hk2⟩).mono fun e W' ⟨he,hB⟩=>?_
 subst he;refine ⟨_,rfl,_,_,_,[],p0 ++ (p1 ++ p2),[],hW',?_,?_,rfl,hB.frame _,fun h=>by cases h⟩
 ·exact trodAll_mk1 (shut_bool Tryz.underlying4 true)
 ·exact trodAll_mk3 (Below.trod Tryz.laidOut kR (of_decide_eq_true kR) h0 hB hlt0) (Below.trod Tryz.laidOut kR (of_decide_eq_true kR) h1 hB hlt1) (Below.trod Tryz.laidOut kR (of_decide_eq_true kR) h2 hB hlt2)
theorem hermiteChecks_holds : Rows.HermiteChecksSaid:=
 OpenClaim.holds_of_wide 12 Tryz.f12 rfl rfl rfl rfl rfl rfl rfl ⟨rfl,rfl,rfl,rfl,rfl⟩ rfl rfl rfl rfl rfl kR Tryz.func12 kR
  (of_decide_eq_true kR) (by unfold Func.isWrapper; first | (rw [if_pos (by decide +kernel)]; kernel_rfl) | (rw [if_neg (by decide +kernel)]; exact ⟨rfl,rfl⟩))
  (fun os started H enc _=>hermiteChecks_lifted os started H enc)
end Go.Proofs.YtgnmdddaiefooaaGreat
