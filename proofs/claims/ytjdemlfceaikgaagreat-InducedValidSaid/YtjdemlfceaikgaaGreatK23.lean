/- torsionref29.Homotopic: the walk. Maps keyed by ints in memory, by what they hold at a key. chains.sum: a map of coefficients; add. slices.Sorted(maps.Keys(m)) at the sum's map: the shelf's contracts at this dump (the layings are lay-plain's). chains.sum.chain: the sum as a chain. chains.Make. sync.Once's parts: the lock, the deferred calls. (*images).of$1: the index of a chain map. torsionref29.Find, Apply, Image, Compose. torsionref29.Compose, Inclusion, Same. torsionref29.Same; torsionref26.Valid; torsionref29.Proper. -/
import Derived.Maps.OwnSet
import Derived.Shelf.SlIterI.Nil
import Derived.Shelf.SortM.Plain
import Derived.Shelf.SortM.SortNone
import Derived.Ground.GgzProg
import Derived.Ground.SlgmProg
import Derived.Defers
import Derived.Recover
import Derived.Tactics
import Derived.Tactics2
import Derived.Laws.Pointers
import Derived.Laws.LoneSync
import Derived.RegionTactic
import Derived.RegionCalls
import Derived.ChangeAlike
import Derived.Laws.NewBlocks
import Derived.Test.YtjdemlfceaikgaaGreatK01
import Derived.Test.YtjdemlfceaikgaaGreatK22
set_option linter.unusedVariables false
set_option linter.unusedSimpArgs false
set_option linter.unusedSectionVars false
namespace Go.Proofs.YtjdemlfceaikgaaGreat
open Go.RowKit
theorem appIm {w : World} {ops : Array Oper} {rest : List Oper} {o : Oper} {a : Act} {Q : Exit->Act->World->Prop} (hgd : o.guard = none) (s x : Operand)
  (ho : o.op = .call { callee:=.builtin .append,args:=#[s,x],argTypes:=#[33,33] })
  (base : Nat) (v : Value) (xs : Mp) (hs : a.eval s = v) (hown : MapO w base v xs) (yv : Value) (ys : Mp) (hx : a.eval x = yv) (hy : MapV w yv ys) (hlen : xs.length + ys.length<=10000000) (hbase : base<=w.heap.size)
  (h : ∀v' w',MapO w' base v' (xs ++ ys)->w.grownBy w' v.ownBlock->TE [tFc,tU] w w'->wpList Tryz.prog ops Q rest (a.put o.dst v') w') : wpList Tryz.prog ops Q (o :: rest) a w:=by
 obtain ⟨i0,hi,hz0,hz1,hz2⟩:=info_parts Tryz.infoIm
 exact wpList_appLs hgd imgE s x 33 ho Tryz.underlying33 hi hz0 hz1 hz2 rfl dE base v xs hs hown yv ys hx hy oM hbase fun v' w' h1 h2 h3=>h v' w' h1 h2 h3
theorem imgEE {w : World} {f : Int × Ch} {o : Option Addr} {n c : Nat} (h : ChnV w (.slice o n c) f.2) : imgE.E w [.int .i64 f.1,.slice o n c] f:=⟨_,rfl,h⟩
theorem homM_sn {c : Cx} {n : Int} {H : Nat->Ch} {i : Nat} {f : Cel} (h : c[i]? = some f) : (homM c n H).take (i + 1) = (homM c n H).take i ++ [(f.1,homI c n H i)]:=by
 refine take_sn ?_
 have hi:=(List.getElem?_eq_some_iff.1 h).1
 unfold homM
 rw [List.getElem?_map,List.getElem?_range hi]
 have e : idN c i = f.1:=by unfold idN; rw [getD_of h]
 rw [<-e]
 rfl
set_option maxHeartbeats 16000000 in
set_option maxRecDepth 20000 in
theorem homotopic_any {t : Nat} (v lv : Value) (c : Cx) (n : Int) (l : List Int) (w : World) (h : CpxV w v c) (hl : I8V w lv l) (hI : CxI t c) (ht : t<=4) (hn : n.natAbs<=3) :
  Calls Tryz.prog 34 #[v,.int .i64 n,lv] w fun e w'=>∃u,e = .returned u/\MapO w' w.heap.size u (homM c n (raisC c l))/\Below w.heap.size w w':=by
 obtain ⟨ao,ac,rfl,-,hc1⟩:=id h.shape
 obtain ⟨lo,ln,lc,rfl,-⟩:=id hl
 obtain ⟨m,hcm⟩ : ∃n,c.length = n:=⟨_,rfl⟩
 have hc11 : c.length<=11:=by have:=hI.len; omega
 obtain ⟨M,hM⟩ : ∃M,homM c n (raisC c l) = M:=⟨_,rfl⟩
 have HML : HidS (M.length = m):=⟨by rw [<-hM,<-hcm]; unfold homM; simp⟩
 have HSN : HidS (∀(i : Nat) (f : Cel),c[i]? = some f->M.take (i + 1) = M.take i ++ [(f.1,homI c n (raisC c l) i)]):=⟨fun i f hf=>by rw [<-hM]; exact homM_sn hf⟩
 have HEX : HidS (∀(i : Nat) (f : Cel),c[i]? = some f->∃y1 y2 z1 e1 z2,HomS c n l f y1 y2 (homI c n (raisC c l) i) z1 e1 z2):=⟨fun i f hf=>homS_ex hI ht hn l hf⟩
 rw [hcm] at h hc11 ⊢
 rw [hM]
 have H:=HidS.mk h
 have HL:=HidS.mk hl
 have HCM:=HidS.mk hcm
 have HI:=HidS.mk hI
 clear h hl hcm hI hM
 go_enter Tryz.func34,Tryz.ntmps34
 have hO : HidS (MapO (w.alloc (.cells #[] tIm)) w.heap.size (.slice (some ⟨w.heap.size,0,none⟩) 0 0) (M.take 0)):=⟨LsO.made imgE w (Nat.le_refl _)⟩
 have hal:=(Below.refl w.heap.size w).alloc (Nat.le_refl _) (.cells #[] tIm)
 go_wp2
 go_loopw [7,8] (fun u iv wr=>∃i : Nat,i<=m/\iv = .int .i64 i/\HidS (MapO wr w.heap.size u (M.take i))/\Below w.heap.size w wr) (fun _ iv _=>m - (intOf iv).toNat)
 case atStart=>exact ⟨0,by omega,rfl,hO,hal⟩
 case round=>
  clear hO hal
  obtain ⟨i,hi,rfl,hO,hB⟩:=hrel
  obtain ⟨uo,uc,rfl⟩:=LsO.shape hO.out
  have hlm : (M.take i).length = i:=by rw [List.length_take,HML.out]; omega
  rw [hlm] at hO ⊢
  have HLM:=HidS.mk hlm
  clear hlm
  by_cases hlt : i < m
  ·obtain ⟨f,hf⟩:=lt_get HCM.out hlt
   obtain ⟨y1,y2,z1,e1,z2,hs⟩:=HEX.out i f hf
   obtain ⟨y3,hy3⟩ : ∃y,homI c n (raisC c l) i = y:=⟨_,rfl⟩
   rw [hy3] at hs
   have HS:=HidS.mk hs
   have HF:=HidS.mk hf
   have HST : HidS (M.take (i + 1) = M.take i ++ [(f.1,y3)]):=⟨by rw [HSN.out i f hf,hy3]⟩
   have HFE : HidS (f ∈ c/\bOf c f.1 = f.2.2):=⟨List.mem_of_getElem? hf,bOf_at HI.out.val (List.mem_of_getElem? hf)⟩
   obtain ⟨b1,o2,q2,rfl,hb1,f1,f2,f3,hv⟩:=(H.out.below hB).cel hf
   clear hf hs hy3 hv
   have hl3:=lastsB_ls faceE [(f.1,1)]
   go_upto_region 5 with (fail)
   refine wp_serH 8 [pcI 5 1,pcD 7 [5] (fun w v=>ChnV w v [(f.1,1)])] ?_
   refine sRd ?_
   refine sRc (fun wS hI Gk hG=>by go_simp; exact ck hG (r1of_any 1 wS dE dE)) (fun _ hv=>?_)
   obtain ⟨_,-,s6,a6,l6,k6,_,rfl,-⟩:=hv
   refine sRd ?_
   refine sRc (fun wS hI h5 Gk hG=>?_) (fun v7 hv7=>?_)
   ·have hal:=(Below.refl wS.heap.size wS).alloc (Nat.le_refl _) (.cells #[.int .i64 f.1,.bool s6,.slice a6 l6 k6] tFc)
    go_simp
    exact hG _ _ (ChnV.one (Blk.new _ _ _) (IntV.ext h5 (lx hal)))
   obtain ⟨_,-,hv7⟩:=hv7
   obtain ⟨xo,xc,rfl,-,-⟩:=LsV.shape hv7
   clear hv7
   refine sRe ?_
   intro w5 hb5 _ h7
   have hB5:=nx hB hb5
   have HX:=HidS.mk (show ChnV w5 (.slice xo [(f.1,(1 : Int))].length xc) [(f.1,1)] from h7)
   have hO:=HidS.mk (hO.out.below hb5)
   clear h7 f1 f2 f3
   go_wp2_with fail
   refine (r1of_any n w5 oM oM).mono ?_
   rintro e w6 ⟨_,rfl,hn6,hb6⟩
   have HX:=HidS.mk (HX.out.below hb6)
   have hO:=HidS.mk (hO.out.below hb6)
   have hB6:=nx hB5 hb6
   have HNV:=HidS.mk hn6
   clear hn6
   go_wp2_with fail
   refine (cscale_any _ _ [(f.1,1)] n w6 HX.out HNV.out (two_pow_lim (e:=10) (by rw [show nrm [(f.1,(1 : Int))] = 1 from rfl,Nat.mul_one]; have h9 : 2 ^ 10 = 1024:=rfl; omega) dE) (two_pow_lim (e:=10) (by have h9 : 2 ^ 10 = 1024:=rfl; omega) dE) (two_pow_lim (e:=10) (show 1 < 2 ^ 10 by decide) dE) sI).mono ?_
   rintro e w7 ⟨v1,rfl,hy1,hb7⟩
   have hB7:=nx hB6 hb7
   have HX:=HidS.mk (HX.out.below hb7)
   have hO:=HidS.mk (hO.out.below hb7)
   have HY:=HidS.mk (show ChnV w7 v1 y1 by rw [HS.out.h1]; exact hy1)
   obtain ⟨p1,p2,p3,rfl⟩ : ∃o m q,v1 = .slice o m q:=(LsV.shape hy1).elim fun o h=>h.elim fun q h=>⟨o,_,q,h.1⟩
   clear hy1
   go_wp2_with fail
   refine (lifted_any _ _ _ c [(f.1,1)] l w7 (H.out.below hB7) HX.out (HL.out.below hB7) (by rw [HCM.out]; exact hc11) HI.out.dim (two_pow_lim (e:=10) (show 264 * 1 < 2 ^ 10 by decide) dE) sI).mono ?_
   rintro e w8 ⟨v2,rfl,hz1,hb8⟩
   have hB8:=nx hB7 hb8
   have HY:=HidS.mk (HY.out.below hb8)
   have hO:=HidS.mk (hO.out.below hb8)
   have HZ:=HidS.mk (show ChnV w8 v2 z1 by rw [HS.out.hz1]; exact hz1)
   obtain ⟨q1,q2',q3,rfl⟩ : ∃o m q,v2 = .slice o m q:=(LsV.shape hz1).elim fun o h=>h.elim fun q h=>⟨o,_,q,h.1⟩
   clear hz1
   go_wp2_with fail
   refine (edge_any _ _ c z1 w8 (H.out.below hB8) HZ.out HS.out.a1).mono ?_
   rintro e w9 ⟨v3,rfl,he1,hb9⟩
   have hB9:=nx hB8 hb9
   have HY:=HidS.mk (HY.out.below hb9)
   have hO:=HidS.mk (hO.out.below hb9)
   have HE:=HidS.mk (show ChnV w9 v3 e1 by rw [<-HS.out.he1]; exact he1)
   obtain ⟨r1,r2,r3,rfl⟩ : ∃o m q,v3 = .slice o m q:=(LsV.shape he1).elim fun o h=>h.elim fun q h=>⟨o,_,q,h.1⟩
   clear he1
   go_wp2_with fail
   refine (r1of_any 1 w9 dE dE).mono ?_
   rintro e w10 ⟨_,rfl,h1,hb10⟩
   have hB10:=nx hB9 hb10
   have HY:=HidS.mk (HY.out.below hb10)
   have hO:=HidS.mk (hO.out.below hb10)
   have HE:=HidS.mk (HE.out.below hb10)
   have H1:=HidS.mk h1
   clear h1
   go_wp2_with fail
   refine (cadd_any _ _ _ y1 e1 1 w10 HY.out HE.out H1.out HS.out.s2.1 (two_pow_lim (e:=10) (show (1 : Int).natAbs < 2 ^ 10 by decide) dE) HS.out.s2.2.1 HS.out.s2.2.2).mono ?_
   rintro e w11 ⟨v4,rfl,hy2,hb11⟩
   have hB11:=nx hB10 hb11
   have hO:=HidS.mk (hO.out.below hb11)
   have HY:=HidS.mk (show ChnV w11 v4 y2 by rw [HS.out.h2]; exact hy2)
   obtain ⟨s1,s2,s3,rfl⟩ : ∃o m q,v4 = .slice o m q:=(LsV.shape hy2).elim fun o h=>h.elim fun q h=>⟨o,_,q,h.1⟩
   clear hy2
   obtain ⟨b',o4,q4,eb,hb1',f1,f2,f3,hv⟩:=(H.out.below hB11).cel HF.out
   cases eb
   have HV:=HidS.mk hv
   clear hv
   go_wp2_with fail
   refine (lifted_any _ _ _ c f.2.2 l w11 (H.out.below hB11) HV.out (HL.out.below hB11) (by rw [HCM.out]; exact hc11) HI.out.dim HS.out.s1.1 HS.out.s1.2).mono ?_
   rintro e w12 ⟨v5,rfl,hz2,hb12⟩
   have hB12:=nx hB11 hb12
   have HY:=HidS.mk (HY.out.below hb12)
   have hO:=HidS.mk (hO.out.below hb12)
   have HZ:=HidS.mk (show ChnV w12 v5 z2 by rw [HS.out.hz2]; exact hz2)
   obtain ⟨t1,t2,t3,rfl⟩ : ∃o m q,v5 = .slice o m q:=(LsV.shape hz2).elim fun o h=>h.elim fun q h=>⟨o,_,q,h.1⟩
   clear hz2 f1 f2 f3
   go_wp2_with fail
   refine (r1of_any 1 w12 dE dE).mono ?_
   rintro e w13 ⟨_,rfl,h1,hb13⟩
   have hB13:=nx hB12 hb13
   have HY:=HidS.mk (HY.out.below hb13)
   have hO:=HidS.mk (hO.out.below hb13)
   have HZ:=HidS.mk (HZ.out.below hb13)
   have H1:=HidS.mk h1
   clear h1
   go_wp2_with fail
   refine (cadd_any _ _ _ y2 z2 1 w13 HY.out HZ.out H1.out HS.out.s3.1 (two_pow_lim (e:=10) (show (1 : Int).natAbs < 2 ^ 10 by decide) dE) HS.out.s3.2.1 HS.out.s3.2.2).mono ?_
   rintro e w14 ⟨v6,rfl,hy3,hb14⟩
   have hB14:=nx hB13 hb14
   have hO:=HidS.mk (hO.out.below hb14)
   have HY:=HidS.mk (show ChnV w14 v6 y3 by rw [HS.out.h3]; exact hy3)
   obtain ⟨g1,g2,g3,rfl⟩ : ∃o m q,v6 = .slice o m q:=(LsV.shape hy3).elim fun o h=>h.elim fun q h=>⟨o,_,q,h.1⟩
   clear hy3
   obtain ⟨b',o5,q5,eb,hb1'',f1,f2,f3,-⟩:=(H.out.below hB14).cel HF.out
   cases eb
   have hal:=(Below.refl w14.heap.size w14).alloc (Nat.le_refl _) (.cells #[.int .i64 f.1,.slice g1 g2 g3] tIm)
   have HO14:=HidS.mk (LsO.below hO.out hal)
   have HN14:=HidS.mk (LsO.lits (e:=imgE) (base:=0) (Blk.new w14 tIm #[.int .i64 f.1,.slice g1 g2 g3]) (Nat.zero_le _) [([.int .i64 f.1,.slice g1 g2 g3],(f.1,y3))] rfl (List.forall_mem_cons.2 ⟨imgEE (f:=(f.1,y3)) (LsV.below HY.out hal),fun _ h=>by cases h⟩) sI).vs
   have hsz:=hB14.size
   go_wp2_with (at_builtin; go_loud (refine appIm rfl _ _ rfl w.heap.size _ (M.take i) rfl HO14.out _ [(f.1,y3)] rfl HN14.out (by rw [HLM.out]; show i + 1<=_; omega) (by simp; omega) ?_; intro v9 w15 hown9 hgr9 hte9))
   have hB15 : Below w.heap.size w w15:=(hB14.alloc hB14.size _).grown hgr9 (by simp; omega) (fun g hg=>by have:=HO14.out.own g hg; omega)
   have hO15 : HidS (MapO w15 w.heap.size v9 (M.take (i + 1))):=⟨by rw [HST.out]; exact hown9⟩
   clear hown9 hgr9 hte9
   go_roundw
   case rel=>exact ⟨i + 1,by omega,by simp,hO15,hB15⟩
   case measure=>simp [intOf]; omega
  ·obtain rfl : m = i:=by omega
   rw [take_all HML.out] at hO
   go_wp2
   go_ret
   exact ⟨_,rfl,hO.out,hB⟩
end Go.Proofs.YtjdemlfceaikgaaGreat

namespace Go.Proofs.YtjdemlfceaikgaaGreat
open Go.RowKit Go.Maps
def I64 (i : Int) : Prop:=-9223372036854775808<=i/\i<=9223372036854775807
def keyI (i : Int) : Lit:=.int .i64 i
def rdV (v : Value) : Option (DataW Value × List MemPlace):=some (.held v,[])
theorem keyI_ne {i j : Int} (h : i ≠ j) : keyI i ≠ keyI j:=fun e=>h (by injection e)
theorem Tryz.keyedI : Keyed Tryz.prog tInt:=int_keyed Tryz.underlying3
theorem keyI_of {i : Int} (h : I64 i) : keyOf Tryz.prog tInt (.int .i64 i) = some (keyI i):=keyOf_int_mk Tryz.underlying3 (by
 obtain ⟨h1,h2⟩:=h
 simp only [Lit.wf]
 rw [Bool.and_eq_true,decide_eq_true_eq,decide_eq_true_eq]
 exact ⟨h1,h2⟩)
def MpV (w : World) (b n : Nat) (F : Int->Option Value) : Prop:=
 ∃D : DataW Value,w.ownsMap Tryz.prog tInt rdV b n D/\(∀i,Maps.has D (keyI i) = (F i).isSome)/\∀i v,F i = some v->∀z,D.atKey (keyI i) z = .held v
section
variable {w w' : World} {b n : Nat} {F : Int->Option Value}
theorem MpV.made (w : World) : MpV (w.alloc (.map #[] 0)) w.heap.size 0 fun _=>none:=⟨.map [],World.ownsMap_made _ _ _ _,fun _=>rfl,fun _ _ h=>by cases h⟩
theorem MpV.lt (h : MpV w b n F) : b < w.heap.size:=by obtain ⟨D,h1,-⟩:=h; exact h1.lt
theorem MpV.kept {row : Option Nat} (h : MpV w b n F) (hg : w.grownBy w' row) (hne : some b ≠ row) : MpV w' b n F:=by
 obtain ⟨D,h1,h2⟩:=h
 exact ⟨D,h1.kept hg hne,h2⟩
theorem MpV.below (h : MpV w b n F) (hb : Below w.heap.size w w') : MpV w' b n F:=h.kept (row:=none) ⟨hb.os,hb.tape,hb.output,hb.size,fun k hk _=>hb.block k hk⟩ sI
theorem MpV.old (h : MpV w b n F) (hb : w'.heap[b]? = w.heap[b]?) : MpV w' b n F:=by
 obtain ⟨D,⟨es,clock,e1,e2⟩,h2⟩:=h
 exact ⟨D,⟨es,clock,hb.trans e1,e2⟩,h2⟩
theorem MpV.setCell (h : MpV w b n F) {a : Addr} (ha : b ≠ a.block) (u : Value) : MpV (w.setCell a u) b n F:=by
 obtain ⟨D,h1,h2⟩:=h
 exact ⟨D,h1.setCell ha u,h2⟩
theorem MpV.mono (h : MpV w b n F) {m : Nat} (hm : n<=m) : MpV w b m F:=by
 obtain ⟨D,h1,h2⟩:=h
 exact ⟨D,h1.mono hm,h2⟩
def getK (F : Int->Option Value) (z : Value) (i : Int) : Value:=(F i).getD z
theorem MpV.look (h : MpV w b n F) {i : Int} (hi : I64 i) {t e : TypeId} (ht : Tryz.prog.underlying t = some (.map tInt e)) {z : Value} (hz : (zeroValue e).run Tryz.prog w = .ok z w) :
  (Instr.lookup t (.map (some b)) (.int .i64 i) false).run Tryz.prog w = .ok (getK F z i) w:=by
 obtain ⟨D,h1,h2,h3⟩:=h
 obtain ⟨v,ps,hrun,hv⟩:=h1.lookup Tryz.keyedI ht hz (R:=rdV) (zd:=.held z) (zp:=[]) rfl (keyI_of hi)
 rw [hrun]
 have hv2 : DataW.held v = D.atKey (keyI i) (.held z):=congrArg Prod.fst (Option.some.inj hv)
 rcases hF : F i with _ | u
 ·have:=h2 i
  rw [hF] at this
  rw [atKey_of_not_has this] at hv2
  rw [DataW.held.inj hv2]
  unfold getK
  rw [hF]
  rfl
 ·rw [h3 i u hF] at hv2
  rw [DataW.held.inj hv2]
  unfold getK
  rw [hF]
  rfl
theorem MpV.lookOk (h : MpV w b n F) {i : Int} (hi : I64 i) {t e : TypeId} (ht : Tryz.prog.underlying t = some (.map tInt e)) {z : Value} (hz : (zeroValue e).run Tryz.prog w = .ok z w) :
  (Instr.lookup t (.map (some b)) (.int .i64 i) true).run Tryz.prog w = .ok (.tuple #[getK F z i,.bool (F i).isSome]) w:=by
 obtain ⟨D,h1,h2,h3⟩:=h
 obtain ⟨v,ps,hrun,hv⟩:=h1.look_ok Tryz.keyedI ht hz (R:=rdV) (zd:=.held z) (zp:=[]) rfl (keyI_of hi)
 rw [hrun,h2 i]
 have hv2 : DataW.held v = D.atKey (keyI i) (.held z):=congrArg Prod.fst (Option.some.inj hv)
 rcases hF : F i with _ | u
 ·have:=h2 i
  rw [hF] at this
  rw [atKey_of_not_has this] at hv2
  rw [DataW.held.inj hv2]
  unfold getK
  rw [hF]
  rfl
 ·rw [h3 i u hF] at hv2
  rw [DataW.held.inj hv2]
  unfold getK
  rw [hF]
  rfl
def putK (F : Int->Option Value) (i : Int) (v : Value) : Int->Option Value:=fun j=>if j = i then some v else F j
def delK (F : Int->Option Value) (i : Int) : Int->Option Value:=fun j=>if j = i then none else F j
theorem TE.map {ts : List TypeId} (h : MpV w b n F) (hg : w.grownBy w' (some b)) : TE ts w w':=TE.row hg fun g e cs t fz hb=>by
 cases e
 obtain ⟨D,⟨es,clock,h1,-⟩,-⟩:=h
 rw [h1] at hb
 cases hb
theorem mp_put {D : DataW Value} (h1 : w.ownsMap Tryz.prog tInt rdV b n D) (h2 : ∀i,Maps.has D (keyI i) = (F i).isSome) (h3 : ∀i v,F i = some v->∀z,D.atKey (keyI i) z = .held v) {m : Nat} {i : Int} {v : Value} (hw : w'.ownsMap Tryz.prog tInt rdV b m (D.put (keyI i) (.held v))) : MpV w' b m (putK F i v):=by
 refine ⟨_,hw,fun j=>?_,fun j u hj z=>?_⟩
 ·unfold putK
  by_cases e : j = i
  ·rw [if_pos e,e,has_put_same h1.isMap (show WideAt.IsKeyLit (keyI i) from trivial)]; rfl
  ·rw [if_neg e,has_put_other (keyI_ne e),h2 j]
 ·unfold putK at hj
  by_cases e : j = i
  ·rw [if_pos e] at hj
   injection hj with hj
   rw [e,atKey_put_same h1.isMap (show WideAt.IsKeyLit (keyI i) from trivial),hj]
  ·rw [if_neg e] at hj
   rw [atKey_put_other (keyI_ne e),h3 j u hj]
theorem mp_del {D : DataW Value} (h2 : ∀i,Maps.has D (keyI i) = (F i).isSome) (h3 : ∀i v,F i = some v->∀z,D.atKey (keyI i) z = .held v) {m : Nat} {i : Int} (hw : w'.ownsMap Tryz.prog tInt rdV b m (D.del (keyI i))) : MpV w' b m (delK F i):=by
 refine ⟨_,hw,fun j=>?_,fun j u hj z=>?_⟩
 ·unfold delK
  by_cases e : j = i
  ·rw [if_pos e,e,has_del_same]; rfl
  ·rw [if_neg e,has_del_other (keyI_ne e),h2 j]
 ·unfold delK at hj
  by_cases e : j = i
  ·rw [if_pos e] at hj; cases hj
  ·rw [if_neg e] at hj
   rw [atKey_del_other (keyI_ne e),h3 j u hj]
theorem wp_put {ops : Array Oper} {rest : List Oper} {o : Oper} {a : Act} {Q : Exit->Act->World->Prop} (hg : o.guard = none) (m x v : Operand) (t : TypeId) (hop : o.op = Op.mapUpdate t m x v)
  (e : TypeId) (ht : Tryz.prog.underlying t = some (.map tInt e)) (b n : Nat) (F : Int->Option Value) (hm : a.eval m = .map (some b)) (h : MpV w b n F) (hn : n<=1000000) (i : Int) (val : Value) (hx : a.eval x = .int .i64 i) (hv : a.eval v = val) (hi : I64 i)
  (hK : ∀w',MpV w' b (n + 1) (putK F i val)->w.grownBy w' (some b)->wpList Tryz.prog ops Q rest (a.put o.dst undef) w') : wpList Tryz.prog ops Q (o :: rest) a w:=by
 obtain ⟨D,h1,h2,h3⟩:=h
 exact wpList_mapUpdate_own w hg m x v t hop tInt e Tryz.keyedI ht rdV b n D hm h1 (by unfold maxLen; omega) _ val (keyI i) hx hv (keyI_of hi) (.held val) [] rfl fun w' hw hgr=>hK w' (mp_put h1 h2 h3 hw) hgr
theorem wp_del {ops : Array Oper} {rest : List Oper} {o : Oper} {a : Act} {Q : Exit->Act->World->Prop} (hg : o.guard = none) (m x : Operand) (t : TypeId) (hop : o.op = Op.call { callee:=Callee.builtin Builtin.delete,args:=#[m,x],argTypes:=#[t,tInt] })
  (e : TypeId) (ht : Tryz.prog.underlying t = some (.map tInt e)) (b n : Nat) (F : Int->Option Value) (hm : a.eval m = .map (some b)) (h : MpV w b n F) (i : Int) (hx : a.eval x = .int .i64 i) (hi : I64 i)
  (hK : ∀w',MpV w' b n (delK F i)->w.grownBy w' (some b)->wpList Tryz.prog ops Q rest (a.put o.dst (.tuple #[])) w') : wpList Tryz.prog ops Q (o :: rest) a w:=by
 obtain ⟨D,h1,h2,h3⟩:=h
 exact wpList_delete_own w hg m x t tInt hop e Tryz.keyedI ht rdV b n D hm h1 _ (keyI i) hx (keyI_of hi) fun w' hw hgr=>hK w' (mp_del h2 h3 hw) hgr.grown
end
abbrev tSum : TypeId:=152
theorem coef_ins (s : Ch) (i k j : Int) : coef (insC s (i,k)) j = coef s j + if i = j then k else 0:=by
 unfold coef
 rw [lin_ins]
 congr 1
 by_cases e : i = j
 ·simp [dl,e]
 ·simp [dl,e]
def SumV (w : World) (b n : Nat) (s : Ch) : Prop:=∃F,MpV w b n F/\(∀i,(F i).isSome = true ↔ coef s i ≠ 0)/\∀i v,F i = some v->IntV w v (coef s i)
section
variable {w w' : World} {b n : Nat} {s : Ch}
theorem SumV.made (w : World) : SumV (w.alloc (.map #[] 0)) w.heap.size 0 []:=⟨_,MpV.made w,fun i=>⟨(by intro h; cases h),fun h=>absurd rfl h⟩,fun i v h=>by cases h⟩
theorem SumV.kept {row : Option Nat} (h : SumV w b n s) (hg : w.grownBy w' row) (hne : some b ≠ row) (hx : LExt w w') : SumV w' b n s:=by
 obtain ⟨F,h1,h2,h3⟩:=h
 exact ⟨F,h1.kept hg hne,h2,fun i v hv=>(h3 i v hv).ext hx⟩
theorem SumV.below (h : SumV w b n s) (hb : Below w.heap.size w w') : SumV w' b n s:=by
 obtain ⟨F,h1,h2,h3⟩:=h
 exact ⟨F,h1.below hb,h2,fun i v hv=>(h3 i v hv).ext (lx hb)⟩
theorem SumV.lt (h : SumV w b n s) : b < w.heap.size:=by obtain ⟨F,h1,-⟩:=h; exact h1.lt
end
theorem Tryz.zeroI (w : World) : (zeroValue tI).run Tryz.prog w = .ok (.agg #[.bool false,.slice none 0 0]) w:=by kernel_rfl
theorem SumV.at_ {w : World} {s : Ch} {F : Int->Option Value} (h2 : ∀i,(F i).isSome = true ↔ coef s i ≠ 0) (h3 : ∀i v,F i = some v->IntV w v (coef s i)) (i : Int) :
  ∃sg a l c,getK F (.agg #[.bool false,.slice none 0 0]) i = .agg #[.bool sg,.slice a l c]/\IntV w (.agg #[.bool sg,.slice a l c]) (coef s i):=by
 unfold getK
 rcases hF : F i with _ | v
 ·have h0 : coef s i = 0:=Classical.byContradiction fun h=>by
   have:=(h2 i).2 h
   rw [hF] at this
   cases this
  exact ⟨false,none,0,0,rfl,by rw [h0]; exact intV_zero w⟩
 ·have h:=h3 i v hF
  obtain ⟨sg,a,l,c,_,rfl,-⟩:=id h
  exact ⟨sg,a,l,c,rfl,h⟩
theorem SumV.put {w w' : World} {b n m : Nat} {s : Ch} {F : Int->Option Value} {i k : Int} {v : Value} (h2 : ∀i,(F i).isSome = true ↔ coef s i ≠ 0) (h3 : ∀i v,F i = some v->IntV w v (coef s i)) (hx : LExt w w') (hm : MpV w' b m (putK F i v)) (hv : IntV w' v (coef s i + k)) (h0 : coef s i + k ≠ 0) : SumV w' b m (insC s (i,k)):=by
 refine ⟨_,hm,fun j=>?_,fun j u hj=>?_⟩
 ·rw [coef_ins]
  unfold putK
  by_cases e : j = i
  ·rw [if_pos e,e,if_pos rfl]
   exact ⟨fun _=>h0,fun _=>rfl⟩
  ·rw [if_neg e,if_neg (fun h=>e h.symm),Int.add_zero]
   exact h2 j
 ·rw [coef_ins]
  unfold putK at hj
  by_cases e : j = i
  ·rw [if_pos e] at hj
   cases hj
   rw [e,if_pos rfl]
   exact hv
  ·rw [if_neg e] at hj
   rw [if_neg (fun h=>e h.symm),Int.add_zero]
   exact (h3 j u hj).ext hx
theorem SumV.del {w w' : World} {b n m : Nat} {s : Ch} {F : Int->Option Value} {i k : Int} (h2 : ∀i,(F i).isSome = true ↔ coef s i ≠ 0) (h3 : ∀i v,F i = some v->IntV w v (coef s i)) (hx : LExt w w') (hm : MpV w' b m (delK F i)) (h0 : coef s i + k = 0) : SumV w' b m (insC s (i,k)):=by
 refine ⟨_,hm,fun j=>?_,fun j u hj=>?_⟩
 ·rw [coef_ins]
  unfold delK
  by_cases e : j = i
  ·rw [if_pos e,e,if_pos rfl]
   exact ⟨fun h=>(by cases h),fun h=>absurd h0 h⟩
  ·rw [if_neg e,if_neg (fun h=>e h.symm),Int.add_zero]
   exact h2 j
 ·rw [coef_ins]
  unfold delK at hj
  by_cases e : j = i
  ·rw [if_pos e] at hj
   cases hj
  ·rw [if_neg e] at hj
   rw [if_neg (fun h=>e h.symm),Int.add_zero]
   exact (h3 j u hj).ext hx
theorem grown_of_below {w w' : World} (hb : Below w.heap.size w w') (row : Option Nat) : w.grownBy w' row:=⟨hb.os,hb.tape,hb.output,hb.size,fun k hk _=>hb.block k hk⟩
set_option maxHeartbeats 8000000 in
set_option maxRecDepth 20000 in
theorem sadd_any (b n : Nat) (s : Ch) (nr k : Int) (kv : Value) (w : World) (h : SumV w b n s) (hk : IntV w kv k) (hi : I64 nr) (hs : Sm (coef s nr)) (hks : Sm k) (hn : n<=999999) :
  Calls Tryz.prog 90 #[.map (some b),.int .i64 nr,kv] w fun e w'=>(∃v,e = .returned v)/\SumV w' b (n + 1) (insC s (nr,k))/\w.grownBy w' (some b):=by
 obtain ⟨sk,ak,lk,ck,_,rfl,-⟩:=id hk
 obtain ⟨F,hM,h2,h3⟩:=h
 have hbl:=hM.lt
 have HM:=HidS.mk hM
 have H2:=HidS.mk h2
 have H3:=HidS.mk h3
 have HK:=HidS.mk hk
 have HS:=HidS.mk hs
 have HKS:=HidS.mk hks
 have HI:=HidS.mk hi
 clear hM h2 h3 hk hs hks hi
 go_enter Tryz.func90,Tryz.ntmps90
 go_upto_region 1 with (fail)
 refine wp_world ?_
 intro W0 hW0
 obtain ⟨hB0,T2,hs0⟩:=world1 hW0
 have HM:=HidS.mk (HM.out.below hB0)
 have H3:=HidS.mk (fun i v hv=>(H3.out i v hv).ext (lx hB0))
 have HK:=HidS.mk (HK.out.ext (lx hB0))
 obtain ⟨c1,c2,c3,c4⟩:=T2.two
 obtain ⟨sg,a1,l1,q1,hget,hgv⟩:=SumV.at_ H2.out H3.out nr
 have hlk:=HM.out.look HI.out (t:=tSum) (e:=tI) Tryz.underlying152 (Tryz.zeroI W0)
 rw [hget] at hlk
 have HGV:=HidS.mk hgv
 obtain ⟨z,hz⟩ : ∃z,coef s nr + k = z:=⟨_,rfl⟩
 have HZ:=HidS.mk hz
 clear hW0 hget hgv hz T2
 go_wp2_with fail
 refine (add_any _ _ _ k W0 HGV.out.weak HK.out.weak HS.out HKS.out).mono ?_
 rintro e w2 ⟨_,rfl,h5,hb2⟩
 obtain ⟨s5,a5,l5,k5,_,rfl,-⟩:=id h5
 have HV:=HidS.mk (show IntV w2 (.agg #[.bool s5,.slice a5 l5 k5]) z by rw [<-HZ.out]; exact h5)
 clear h5 hlk c1 c2 c3 c4
 go_upto_region 2 with (fail)
 refine wp_world ?_
 intro W3 hW3
 obtain ⟨hB3,T2,hs3⟩:=world1 hW3
 have HV:=HidS.mk (HV.out.ext (lx hB3))
 have hBA:=nx hb2 hB3
 obtain ⟨c1,c2,c3,c4⟩:=T2.two
 have HT:=HidS.mk T2
 clear hW3 T2
 go_wp2_with fail
 refine (sign_any _ z W3 HV.out.weak).mono ?_
 rintro e w4 ⟨rfl,hb4⟩
 have hB4:=nx hBA hb4
 have HM4:=HidS.mk (HM.out.below hB4)
 have HV:=HidS.mk (HV.out.ext (lx hb4))
 have T2:=HT.out.below hb4
 obtain ⟨d1,d2,d3,d4⟩:=T2.two
 have hx4:=lx hB4
 clear c1 c2 c3 c4
 by_cases h0 : z = 0
 ·rw [cmpI_zero h0]
  have hz0 : HidS (coef s nr + k = 0):=⟨HZ.out.trans h0⟩
  clear h0
  go_wp2_with (at_delete; go_loud (refine wp_del rfl _ _ tSum rfl tI Tryz.underlying152 b n F rfl HM4.out nr rfl HI.out ?_; intro w9 hm9 hg9))
  have HXM:=TE.map HM4.out hg9 (ts:=[tU])
  refine bodyPost_ret (results_none rfl _ _ _) rfl ⟨⟨_,rfl⟩,SumV.del (n:=n) H2.out H3.out (hx4.trans (HXM.lext sI)) (hm9.mono (Nat.le_succ n)) hz0.out,(grown_of_below (nx hB0 hB4) _).trans hg9⟩
 ·have hcn:=cmpI_ne h0
  obtain ⟨q,hq⟩ : ∃q,cmpI z 0 = q:=⟨_,rfl⟩
  rw [hq] at hcn ⊢
  have hqn : (q == 0) = false:=by simpa using hcn
  have hz0 : HidS (coef s nr + k ≠ 0):=⟨by rw [HZ.out]; exact h0⟩
  clear hq h0 hcn
  go_wp2_with (at_mapUpdate; go_loud (refine wp_put rfl _ _ _ tSum rfl tI Tryz.underlying152 b n F rfl HM4.out oM nr (.agg #[.bool s5,.slice a5 l5 k5]) rfl rfl HI.out ?_; intro w9 hm9 hg9))
  have HXM:=TE.map HM4.out hg9 (ts:=[tU])
  refine bodyPost_end (results_none rfl _ _ _) rfl ⟨⟨_,rfl⟩,SumV.put (n:=n) H2.out H3.out (hx4.trans (HXM.lext sI)) hm9 (by rw [HZ.out]; exact HV.out.ext (HXM.lext sI)) hz0.out,(grown_of_below (nx hB0 hB4) _).trans hg9⟩
end Go.Proofs.YtjdemlfceaikgaaGreat

namespace Go.Proofs.YtjdemlfceaikgaaGreat
open Go.RowKit Go.Maps Go.Sort Go.Shelf
def Tryz.keysA_ren : Go.Shelf.Ren:=⟨fun | 7=>114 | 10=>130 | n=>n,fun | 23=>152 | 26=>3 | 3=>66 | 28=>173 | 0=>0 | 27=>172 | 33=>183 | 4=>4 | n=>n,fun | n=>n⟩
theorem Tryz.keysA : Go.Proofs.SlLaysZI.n7 Tryz.prog Tryz.keysA_ren:={
  mixed:=by kernel_rfl
  f7:=⟨Tryz.f114.name,by decide,Tryz.func114.trans (congrArg some kR)⟩
  f10:=⟨Tryz.f130.name,by decide,Tryz.func130.trans (congrArg some kR)⟩
  t0:=Tryz.underlying0
  a0:=Tryz.isAgg0
  z0:=Tryz.sizeOf0
  v0:=Tryz.zeroValue0
  t4:=Tryz.underlying4
  a4:=Tryz.isAgg4
  z4:=Tryz.sizeOf4
  v4:=Tryz.zeroValue4
  t23:=Tryz.underlying152
  a23:=Tryz.isAgg152
  z23:=Tryz.sizeOf152
  v23:=Tryz.zeroValue152
  t26:=Tryz.underlying3
  a26:=Tryz.isAgg3
  z26:=Tryz.sizeOf3
  v26:=Tryz.zeroValue3
  t27:=Tryz.underlying172
  a27:=Tryz.isAgg172
  z27:=Tryz.sizeOf172
  v27:=Tryz.zeroValue172
  t28:=Tryz.underlying173
  a28:=Tryz.isAgg173
  z28:=Tryz.sizeOf173
  v28:=Tryz.zeroValue173
  t33:=Tryz.underlying183
  a33:=Tryz.isAgg183
  z33:=Tryz.sizeOf183
  v33:=Tryz.zeroValue183 }
def Tryz.sortedA_ren : Go.Shelf.Ren:=⟨fun | 6=>113 | 8=>128 | 9=>129 | 11=>146 | 13=>148 | 12=>147 | 23=>167 | 24=>168 | 14=>158 | 15=>159 | 16=>160 | 17=>161 | 18=>162 | 19=>163 | 20=>164 | 21=>165 | 22=>166 | 25=>180 | 26=>181 | 27=>182 | 28=>183 | 29=>184 | 30=>131 | 31=>192 | n=>n,fun | 26=>3 | 28=>173 | 24=>79 | 0=>0 | 3=>3 | 37=>133 | 48=>96 | 50=>131 | 4=>4 | 40=>213 | 39=>212 | 45=>169 | 5=>5 | 9=>9 | 51=>232 | 55=>236 | 57=>241 | 58=>242 | 33=>183 | n=>n,fun | n=>n⟩
theorem Tryz.sortedA : Go.Proofs.SlLaysZI.n6 Tryz.prog Tryz.sortedA_ren:={
  mixed:=by kernel_rfl
  f6:=⟨Tryz.f113.name,by decide,Tryz.func113.trans (congrArg some kR)⟩
  f8:=⟨Tryz.f128.name,by decide,Tryz.func128.trans (congrArg some kR)⟩
  f11:=⟨Tryz.f146.name,by decide,Tryz.func146.trans (congrArg some kR)⟩
  t0:=Tryz.underlying0
  a0:=Tryz.isAgg0
  z0:=Tryz.sizeOf0
  v0:=Tryz.zeroValue0
  t24:=Tryz.underlying79
  a24:=Tryz.isAgg79
  z24:=Tryz.sizeOf79
  v24:=Tryz.zeroValue79
  t26:=Tryz.underlying3
  a26:=Tryz.isAgg3
  z26:=Tryz.sizeOf3
  v26:=Tryz.zeroValue3
  t28:=Tryz.underlying173
  a28:=Tryz.isAgg173
  z28:=Tryz.sizeOf173
  v28:=Tryz.zeroValue173
  i26:=by kernel_rfl }
def Tryz.sortA_ren : Go.Shelf.Ren:=⟨fun | 5=>129 | 8=>148 | 7=>147 | 19=>167 | 20=>168 | 10=>158 | 11=>159 | 12=>160 | 13=>161 | 14=>162 | 15=>163 | 16=>164 | 17=>165 | 18=>166 | 30=>180 | 31=>181 | 32=>182 | 33=>183 | 34=>184 | 35=>131 | 40=>192 | n=>n,fun | 23=>79 | 25=>3 | 3=>3 | 32=>133 | 22=>79 | 0=>0 | 44=>96 | 46=>131 | 4=>4 | 36=>213 | 35=>212 | 41=>169 | 5=>5 | 9=>9 | 53=>232 | 57=>236 | 63=>241 | 64=>242 | n=>n,fun | n=>n⟩
theorem Tryz.sortA : Go.Proofs.SlLaysM.n5 Tryz.prog Tryz.sortA_ren:={
  mixed:=by kernel_rfl
  f5:=⟨Tryz.f129.name,by decide,Tryz.func129.trans (congrArg some kR)⟩
  f7:=⟨Tryz.f147.name,by decide,Tryz.func147.trans (congrArg some kR)⟩
  f8:=Tryz.func148.trans (congrArg some kR)
  f10:=⟨Tryz.f158.name,by decide,Tryz.func158.trans (congrArg some kR)⟩
  f11:=⟨Tryz.f159.name,by decide,Tryz.func159.trans (congrArg some kR)⟩
  f12:=⟨Tryz.f160.name,by decide,Tryz.func160.trans (congrArg some kR)⟩
  f13:=⟨Tryz.f161.name,by decide,Tryz.func161.trans (congrArg some kR)⟩
  f14:=⟨Tryz.f162.name,by decide,Tryz.func162.trans (congrArg some kR)⟩
  f15:=⟨Tryz.f163.name,by decide,Tryz.func163.trans (congrArg some kR)⟩
  f16:=⟨Tryz.f164.name,by decide,Tryz.func164.trans (congrArg some kR)⟩
  f17:=⟨Tryz.f165.name,by decide,Tryz.func165.trans (congrArg some kR)⟩
  f18:=⟨Tryz.f166.name,by decide,Tryz.func166.trans (congrArg some kR)⟩
  f19:=Tryz.func167.trans (congrArg some kR)
  f20:=Tryz.func168.trans (congrArg some kR)
  f30:=⟨Tryz.f180.name,by decide,Tryz.func180.trans (congrArg some kR)⟩
  f31:=Tryz.func181.trans (congrArg some kR)
  f32:=Tryz.func182.trans (congrArg some kR)
  f33:=⟨Tryz.f183.name,by decide,Tryz.func183.trans (congrArg some kR)⟩
  f34:=⟨Tryz.f184.name,by decide,Tryz.func184.trans (congrArg some kR)⟩
  f35:=⟨Tryz.f131.name,by decide,Tryz.func131.trans (congrArg some kR)⟩
  f40:=⟨Tryz.f192.name,by decide,Tryz.func192.trans (congrArg some kR)⟩
  t0:=Tryz.underlying0
  a0:=Tryz.isAgg0
  z0:=Tryz.sizeOf0
  v0:=Tryz.zeroValue0
  t3:=Tryz.underlying3
  a3:=Tryz.isAgg3
  z3:=Tryz.sizeOf3
  v3:=Tryz.zeroValue3
  t4:=Tryz.underlying4
  a4:=Tryz.isAgg4
  z4:=Tryz.sizeOf4
  v4:=Tryz.zeroValue4
  t5:=Tryz.underlying5
  a5:=Tryz.isAgg5
  z5:=Tryz.sizeOf5
  v5:=Tryz.zeroValue5
  t9:=Tryz.underlying9
  a9:=Tryz.isAgg9
  z9:=Tryz.sizeOf9
  v9:=Tryz.zeroValue9
  t22:=Tryz.underlying79
  a22:=Tryz.isAgg79
  z22:=Tryz.sizeOf79
  v22:=Tryz.zeroValue79
  t23:=Tryz.underlying79
  a23:=Tryz.isAgg79
  z23:=Tryz.sizeOf79
  v23:=Tryz.zeroValue79
  t25:=Tryz.underlying3
  a25:=Tryz.isAgg3
  z25:=Tryz.sizeOf3
  v25:=Tryz.zeroValue3
  t32:=Tryz.underlying133
  a32:=Tryz.isAgg133
  z32:=Tryz.sizeOf133
  v32:=Tryz.zeroValue133
  t35:=Tryz.underlying212
  a35:=Tryz.isAgg212
  z35:=Tryz.sizeOf212
  v35:=Tryz.zeroValue212
  t36:=Tryz.underlying213
  a36:=Tryz.isAgg213
  z36:=Tryz.sizeOf213
  v36:=Tryz.zeroValue213
  t41:=Tryz.underlying169
  a41:=Tryz.isAgg169
  z41:=Tryz.sizeOf169
  v41:=Tryz.zeroValue169
  t44:=Tryz.underlying96
  a44:=Tryz.isAgg96
  z44:=Tryz.sizeOf96
  v44:=Tryz.zeroValue96
  t46:=Tryz.underlying131
  a46:=Tryz.isAgg131
  z46:=Tryz.sizeOf131
  v46:=Tryz.zeroValue131
  t53:=Tryz.underlying232
  a53:=Tryz.isAgg232
  z53:=Tryz.sizeOf232
  v53:=Tryz.zeroValue232
  t57:=Tryz.underlying236
  a57:=Tryz.isAgg236
  z57:=Tryz.sizeOf236
  v57:=Tryz.zeroValue236
  t63:=Tryz.underlying241
  a63:=Tryz.isAgg241
  z63:=Tryz.sizeOf241
  v63:=Tryz.zeroValue241
  t64:=Tryz.underlying242
  a64:=Tryz.isAgg242
  z64:=Tryz.sizeOf242
  v64:=Tryz.zeroValue242 }
theorem Tryz.sortsA (m : Nat) : AnyZI.SortsIn Tryz.prog Tryz.sortedA_ren Fence.wide m:=
  ⟨fun blk off cap ss W hH hblk hsz=>callsIn_wide.2 (AnyM.slices_Sort_int Tryz.sortA blk off cap ss W hH hblk hsz),
   fun p cap W=>callsIn_wide.2 (AnyM.slices_Sort_int_none Tryz.sortA p cap W)⟩
theorem keysC (mb : Option Nat) (W : World) : Calls Tryz.prog 114 #[.map mb] W fun e w'=>e = .returned (.func (.func 130) #[] #[.pointer (some ⟨W.heap.size,0,none⟩)])/\w' = W.alloc (.cells #[.map mb] tSum):=
  (callsIn_wide (n:=5)).1 (AnyZI.keys_in Tryz.keysA Fence.wide 5 trivial rfl mb W)
theorem merge_sorted {L : List Int} (h : L.Pairwise fun a b=>a < b) : L.mergeSort leI = L:=List.mergeSort_of_pairwise (h.imp fun {a b} h=>by simp [leI]; omega)
theorem sortedC (w : World) (b n : Nat) (F : Int->Option Value) (L : List Int) (h : MpV w b n F) (hL : L.Pairwise fun a b=>a < b) (hm : ∀i,i ∈ L ↔ (F i).isSome = true) (hn : n<=1000000) :
    Calls Tryz.prog 113 #[.func (.func 130) #[] #[.pointer (some ⟨w.heap.size,0,none⟩)]] (w.alloc (.cells #[.map (some b)] tSum)) fun e w'=>∃v,e = .returned v/\IdsV w' v L/\Below (w.heap.size + 1) (w.alloc (.cells #[.map (some b)] tSum)) w':=by
  obtain ⟨D,hown,h2,-⟩:=h
  have hsz:=hown.size_le
  have hseq : SeqGives Fence.wide 2 Tryz.prog 130 #[.pointer (some ⟨w.heap.size,0,none⟩)] encZ (fun ss=>ss.Perm (intKeys D)) (Maps.size D) (w.alloc (.cells #[.map (some b)] tSum)):=
    AnyZI.keys_gives (ρ:=Tryz.keysA_ren) { Tryz.keysA with } Fence.wide _ trivial rfl oM w.heap.size b n D _ sI sI (hown.alloc _)
  have cS:=AnyZI.sorted_in Tryz.sortedA Fence.wide 5 trivial trivial trivial trivial rfl oM (Tryz.sortsA _) (enters_of Tryz.func129 kR rfl) 130 #[.pointer (some ⟨w.heap.size,0,none⟩)] trivial (enters_of Tryz.func130 kR rfl) _ _ (show Maps.size D<=maxLen by unfold maxLen; omega) oM _ hseq
  refine ((callsIn_wide (n:=5)).1 cS).mono ?_
  rintro e w' ⟨v,ss,rfl,hS,hrow,hnil,hb⟩
  have hperm : L.Perm (intKeys D):=by
    obtain ⟨es,hD,hpw,_⟩:=hown.entries Tryz.keyedI
    obtain ⟨es',hD',hk⟩:=hown.keysOf
    obtain rfl : es = es':=by rw [hD] at hD'; simpa using hD'
    subst hD
    refine perm_intKeys hpw (fun p hp=>?_) (hL.imp fun {a b} h=>by omega) fun x=>?_
    · obtain ⟨key,hkey⟩:=hk p hp
      obtain ⟨x,-,e,-⟩:=keyOf_i64 Tryz.underlying3 hkey
      exact ⟨x,e⟩
    · rw [hm x,<-h2 x]
      rfl
  have hsl : ss.mergeSort leI = L:=(mergeSort_of_perm_i (hS.trans hperm.symm)).trans (merge_sorted hL)
  have hlen : ss.length = L.length:=(hS.trans hperm.symm).length_eq
  refine ⟨v,rfl,?_,by simpa using hb⟩
  have hO : IdsO w' (w.heap.size + 1) v L:=⟨L.map fun z=>[.int .i64 z],by
    have e1 : (L.map fun z=>[Value.int .i64 z]).flatten = L.map encZ:=by
      clear hsl hlen hperm hm hL
      induction L with
      | nil=>rfl
      | cons a L ih=>rw [List.map_cons,List.flatten_cons,ih]; rfl
    rw [e1,<-hlen]
    have:=hrow
    rw [show (ss.mergeSort fun x y=>decide (x<=y)) = L from hsl] at this
    have h9 : w'.ownsRow (w.heap.size + 1) (Tryz.sortedA_ren.t 26) 1 v ss.length (List.map encZ L):=by simpa using this
    exact h9,by simp,fun i vs x e1 e2=>by
    rw [List.getElem?_map,e2] at e1
    cases e1
    rfl⟩
  exact hO.vs
end Go.Proofs.YtjdemlfceaikgaaGreat

namespace Go.Proofs.YtjdemlfceaikgaaGreat
open Go.RowKit
theorem cloneI (sg : Bool) (a : Option Addr) (l c : Nat) (z : Int) (w : World) (h : IntV w (.agg #[.bool sg,.slice a l c]) z) (hs : Sm z) :
  Calls Tryz.prog 115 #[.slice a l c] w fun e w'=>∃o m q,e = .returned (.slice o m q)/\IntV w' (.agg #[.bool sg,.slice o m q]) z/\Below w.heap.size w w':=by
 obtain ⟨neg,ao,n,cap,xs,e,hn,hl,hc,hx,hN,hz,hp,hq⟩:=h.len hs
 cases e
 refine (cloneU_any a l c xs w hn oM hx).mono ?_
 rintro e w1 ⟨ao',len,cap',rfl,hz1,hz2,hz3,hz4,hb1⟩
 exact ⟨ao',len,cap',rfl,⟨sg,ao',len,cap',xs,rfl,hz1,hz2,hz3,hz4,hN,hz,fun h=>hp oM⟩,hb1⟩
def CloG (sg : Bool) (z : Int) (w : World) (v : Value) : Prop:=∃o m q,v = .slice o m q/\IntV w (.agg #[.bool sg,.slice o m q]) z
theorem lastsB_clo (sg : Bool) (z : Int) : LastsB (CloG sg z):=fun _ _ _ b ⟨o,m,q,h1,h2⟩=>⟨o,m,q,h1,h2.ext (lx b)⟩
theorem val_ids {s : Ch} (hv : ValC s) : ∀i,i ∈ s.map (·.1) ↔ coef s i ≠ 0:=fun i=>by
 constructor
 ·intro h
  obtain ⟨f,hf,rfl⟩:=List.mem_map.1 h
  rw [hv.coef hf]
  exact hv.nz f hf
 ·intro h
  refine Classical.byContradiction fun hn=>h (coef_none fun f hf e=>hn ?_)
  rw [<-e]
  exact List.mem_map.2 ⟨f,hf,rfl⟩
set_option maxHeartbeats 16000000 in
set_option maxRecDepth 20000 in
theorem schain_any (b n : Nat) (s : Ch) (w : World) (h : SumV w b n s) (hv : ValC s) (hi : ∀f ∈ s,I64 f.1) (hS : ∀f ∈ s,Sm f.2) (hn : n<=1000000) (hl : s.length<=1000000) :
  Calls Tryz.prog 92 #[.map (some b)] w fun e w'=>∃u,e = .returned u/\ChnV w' u s/\Below w.heap.size w w':=by
 obtain ⟨F,hM,h2,h3⟩:=h
 obtain ⟨m,hm⟩ : ∃m,s.length = m:=⟨_,rfl⟩
 have HSO:=HidS.mk (sortedC w b n F (s.map (·.1)) hM (List.pairwise_map.2 hv.srt) (fun i=>(val_ids hv i).trans (h2 i).symm) hn)
 have HM:=HidS.mk hM
 have H2:=HidS.mk h2
 have H3:=HidS.mk h3
 have HSM:=HidS.mk hm
 have HV:=HidS.mk hv
 have HI:=HidS.mk hi
 have HSS:=HidS.mk hS
 rw [hm] at hl
 clear hM h2 h3 hm hv hi hS
 go_enter Tryz.func92,Tryz.ntmps92
 go_wp2_with fail
 refine (keysC (some b) w).mono ?_
 rintro e w2 ⟨rfl,rfl⟩
 go_wp2_with fail
 refine HSO.out.mono ?_
 rintro e w3 ⟨v3,rfl,hL,hb3⟩
 obtain ⟨lo,lc,rfl,hl1,hl2⟩:=id hL.shape
 have hlm : (s.map (·.1)).length = m:=by rw [List.length_map,HSM.out]
 rw [hlm] at hL hl1 ⊢
 have HL:=HidS.mk hL
 have hB3 : Below w.heap.size w w3:=((Below.refl _ _).alloc (Nat.le_refl _) _).trans (hb3.mono oM)
 have hO : HidS (ChnO w3 w3.heap.size (.slice none 0 0) (s.take 0)):=⟨LsO.nil _ _ _⟩
 clear hL hb3 hl1 hl2
 go_wp2
 go_loopw [3,11] (fun u iv wr=>∃i : Nat,i<=m/\iv = .int .i64 i/\HidS (ChnO wr w3.heap.size u (s.take i))/\Below w3.heap.size w3 wr) (fun _ iv _=>m - (intOf iv).toNat)
 case atStart=>exact ⟨0,by omega,rfl,hO,Below.refl _ _⟩
 case round=>
  clear hO
  obtain ⟨i,him,rfl,hO,hB⟩:=hrel
  obtain ⟨uo,uc,rfl⟩:=LsO.shape hO.out
  have hlm' : (s.take i).length = i:=by rw [List.length_take,HSM.out]; omega
  rw [hlm'] at hO ⊢
  have HLM:=HidS.mk hlm'
  clear hlm'
  by_cases hlt : i < m
  ·obtain ⟨f,hf⟩:=lt_get HSM.out hlt
   obtain ⟨p,z⟩:=f
   have hBw:=nx hB3 hB
   have hpi : (s.map (·.1))[i]? = some p:=by rw [List.getElem?_map,hf]; rfl
   obtain ⟨bl,rfl,hbl,g1⟩:=(HL.out.below hB).int hpi
   have HMr:=HidS.mk (HM.out.below hBw)
   have H3r:=HidS.mk (fun i v hv=>(H3.out i v hv).ext (lx hBw))
   obtain ⟨sg,a1,l1,q1,hget,hgv⟩:=SumV.at_ H2.out H3r.out p
   have hfm:=List.mem_of_getElem? hf
   rw [HV.out.coef hfm] at hgv
   have hlk:=HMr.out.look (HI.out _ hfm) (t:=tSum) (e:=tI) Tryz.underlying152 (Tryz.zeroI wr)
   rw [hget] at hlk
   have HGV:=HidS.mk hgv
   have HF:=HidS.mk hf
   have HSZ:=HidS.mk (HSS.out _ hfm)
   clear hget hgv hf hpi hfm
   go_upto_region 6 with (fail)
   refine wp_world ?_
   intro W5 hW5
   obtain ⟨hB5,T2,hs5⟩:=world1 hW5
   obtain ⟨c1,c2,c3,c4⟩:=T2.two
   have HGV:=HidS.mk (HGV.out.ext (lx hB5))
   have HO5:=HidS.mk (LsO.below hO.out hB5)
   have hB5':=nx hB hB5
   have hl3:=lastsB_clo sg z
   have hl4:=lastsB_ls faceE [(p,z)]
   clear hW5 hlk g1 T2
   refine wp_serH 10 [pcD 6 [] (CloG sg z),pcD 9 [6] (fun w v=>ChnV w v [(p,z)])] ?_
   refine sRd ?_
   refine sRc (fun wS hI Gk hG=>by go_simp; exact ck hG ((cloneI sg a1 l1 q1 z wS (HGV.out.ext hI.lext) HSZ.out).mono fun e w' ⟨o,m,q,h1,h2,h3⟩=>⟨_,h1,⟨o,m,q,rfl,h2⟩,h3⟩)) (fun _ hv=>?_)
   obtain ⟨_,-,y1,y2,y3,rfl,-⟩:=hv
   refine sRd ?_
   refine sRc (fun wS hI h6 Gk hG=>?_) (fun v9 hv9=>?_)
   ·obtain ⟨_,_,_,ee,h6⟩:=h6
    cases ee
    have hal:=(Below.refl wS.heap.size wS).alloc (Nat.le_refl _) (.cells #[.int .i64 p,.bool sg,.slice y1 y2 y3] tFc)
    go_simp
    exact hG _ _ (ChnV.one (Blk.new _ _ _) (IntV.ext h6 (lx hal)))
   obtain ⟨_,-,hv9⟩:=hv9
   obtain ⟨x1,x2,x3,rfl⟩ : ∃o m q,v9 = .slice o m q:=(LsV.shape hv9).elim fun o h=>h.elim fun q h=>⟨o,_,q,h.1⟩
   clear hv9
   refine sRe ?_
   intro w7 hb7 _ h9
   have hB7:=nx hB5' hb7
   have H9:=HidS.mk (show ChnV w7 (.slice x1 x2 x3) [(p,z)] from h9)
   have HO7:=HidS.mk (LsO.below HO5.out hb7)
   have hsz:=hB7.size
   clear h9 c1 c2 c3 c4
   go_wp2_with (at_builtin; go_loud (refine appF rfl _ _ 48 Tryz.underlying48 rfl w3.heap.size _ (s.take i) rfl HO7.out _ [(p,z)] rfl H9.out (by rw [HLM.out]; show i + 1<=_; omega) oM ?_; intro v8 w8 hown8 hgr8 hte8))
   have hB8 : Below w3.heap.size w3 w8:=hB7.grown hgr8 oM (fun g hg=>by have:=HO7.out.own g hg; omega)
   have hO8 : HidS (ChnO w8 w3.heap.size v8 (s.take (i + 1))):=⟨by rw [take_sn HF.out]; exact hown8⟩
   clear hown8 hgr8 hte8
   go_roundw
   case rel=>exact ⟨i + 1,by omega,by simp,hO8,hB8⟩
   case measure=>simp [intOf]; omega
  ·obtain rfl : m = i:=by omega
   rw [take_all HSM.out] at hO
   go_wp2
   go_ret
   exact ⟨_,rfl,hO.out.vs,nx hB3 hB⟩
theorem idle_mk (w : World) :
  CallsD Tryz.prog 116 #[] .returning w fun e u' w'=>e = .returned (.tuple #[])/\u' = .returning/\w' = w:=by
 refine callsD_of_wpS Tryz.func116 rfl fun c₀ cs hu=>?_
 apply wpS_region
 simp [wpOpsS,go_sem,recoverD,hu,Tryz.ntmps116,bodyPostS,results,Tryz.results116]
 cases c₀
 simp_all
theorem idle_va (w : World) :
  CallsD Tryz.prog 84 #[] .returning w fun e u' w'=>e = .returned (.tuple #[])/\u' = .returning/\w' = w:=by
 refine callsD_of_wpS Tryz.func84 rfl fun c₀ cs hu=>?_
 apply wpS_region
 simp [wpOpsS,go_sem,recoverD,hu,Tryz.ntmps84,bodyPostS,results,Tryz.results84]
 cases c₀
 simp_all
theorem idle_di (w : World) :
  CallsD Tryz.prog 87 #[] .returning w fun e u' w'=>e = .returned (.tuple #[])/\u' = .returning/\w' = w:=by
 refine callsD_of_wpS Tryz.func87 rfl fun c₀ cs hu=>?_
 apply wpS_region
 simp [wpOpsS,go_sem,recoverD,hu,Tryz.ntmps87,bodyPostS,results,Tryz.results87]
 cases c₀
 simp_all
theorem idle_bo (w : World) :
  CallsD Tryz.prog 89 #[] .returning w fun e u' w'=>e = .returned (.tuple #[])/\u' = .returning/\w' = w:=by
 refine callsD_of_wpS Tryz.func89 rfl fun c₀ cs hu=>?_
 apply wpS_region
 simp [wpOpsS,go_sem,recoverD,hu,Tryz.ntmps89,bodyPostS,results,Tryz.results89]
 cases c₀
 simp_all
theorem idle_ve (w : World) :
  CallsD Tryz.prog 101 #[] .returning w fun e u' w'=>e = .returned (.tuple #[])/\u' = .returning/\w' = w:=by
 refine callsD_of_wpS Tryz.func101 rfl fun c₀ cs hu=>?_
 apply wpS_region
 simp [wpOpsS,go_sem,recoverD,hu,Tryz.ntmps101,bodyPostS,results,Tryz.results101]
 cases c₀
 simp_all
theorem idle_iv (w : World) :
  CallsD Tryz.prog 41 #[] .returning w fun e u' w'=>e = .returned (.tuple #[])/\u' = .returning/\w' = w:=by
 refine callsD_of_wpS Tryz.func41 rfl fun c₀ cs hu=>?_
 apply wpS_region
 simp [wpOpsS,go_sem,recoverD,hu,Tryz.ntmps41,bodyPostS,results,Tryz.results41]
 cases c₀
 simp_all
theorem idle_ii (w : World) :
  CallsD Tryz.prog 47 #[] .returning w fun e u' w'=>e = .returned (.tuple #[])/\u' = .returning/\w' = w:=by
 refine callsD_of_wpS Tryz.func47 rfl fun c₀ cs hu=>?_
 apply wpS_region
 simp [wpOpsS,go_sem,recoverD,hu,Tryz.ntmps47,bodyPostS,results,Tryz.results47]
 cases c₀
 simp_all
theorem idle_im (w : World) :
  CallsD Tryz.prog 51 #[] .returning w fun e u' w'=>e = .returned (.tuple #[])/\u' = .returning/\w' = w:=by
 refine callsD_of_wpS Tryz.func51 rfl fun c₀ cs hu=>?_
 apply wpS_region
 simp [wpOpsS,go_sem,recoverD,hu,Tryz.ntmps51,bodyPostS,results,Tryz.results51]
 cases c₀
 simp_all
theorem idle_ia (w : World) :
  CallsD Tryz.prog 60 #[] .returning w fun e u' w'=>e = .returned (.tuple #[])/\u' = .returning/\w' = w:=by
 refine callsD_of_wpS Tryz.func60 rfl fun c₀ cs hu=>?_
 apply wpS_region
 simp [wpOpsS,go_sem,recoverD,hu,Tryz.ntmps60,bodyPostS,results,Tryz.results60]
 cases c₀
 simp_all
theorem idle_ic (w : World) :
  CallsD Tryz.prog 68 #[] .returning w fun e u' w'=>e = .returned (.tuple #[])/\u' = .returning/\w' = w:=by
 refine callsD_of_wpS Tryz.func68 rfl fun c₀ cs hu=>?_
 apply wpS_region
 simp [wpOpsS,go_sem,recoverD,hu,Tryz.ntmps68,bodyPostS,results,Tryz.results68]
 cases c₀
 simp_all
theorem coef_nrm (i : Int) : ∀{x : Ch},(coef x i).natAbs<=nrm x:=by
 intro x
 induction x with
 | nil=>exact Nat.zero_le _
 | cons f x ih=>
  unfold coef at ih ⊢
  simp only [lin,nrm]
  have : (f.2 * dl i f.1).natAbs<=f.2.natAbs:=by
   simp only [dl]
   split <;> simp
  omega
theorem foldl_sum {w w' : World} {b n : Nat} {x : Ch} {i : Nat} {f : Int × Int} (hf : x[i]? = some f) : (x.take (i + 1)).foldl insC [] = insC ((x.take i).foldl insC []) f:=by rw [take_sn hf,List.foldl_append]; rfl
set_option maxHeartbeats 8000000 in
set_option maxRecDepth 20000 in
theorem cmk_any (v : Value) (x : Ch) (w : World) (h : ChnV w v x) (hi : ∀f ∈ x,I64 f.1) (hS : SmN (nrm x)) (hn : x.length<=900000) :
  Calls Tryz.prog 93 #[v] w fun e w'=>∃u,e = .returned u/\ChnV w' u (makC x)/\Below w.heap.size w w':=by
 obtain ⟨ao,ac,rfl,-,hc1⟩:=id h.shape
 obtain ⟨n,hxn⟩ : ∃n,x.length = n:=⟨_,rfl⟩
 rw [hxn] at h hn ⊢
 have H:=HidS.mk h
 have HXN:=HidS.mk hxn
 have HI:=HidS.mk hi
 have HSS:=HidS.mk hS
 clear h hxn hi hS
 have hmm:=@run_makeMap Tryz.prog
 go_enter_defers Tryz.func93,Tryz.ntmps93
 have hO : HidS (SumV (w.alloc (.map #[] 0)) w.heap.size 0 ((x.take 0).foldl insC [])):=⟨SumV.made w⟩
 have hal:=(Below.refl w.heap.size w).alloc (Nat.le_refl _) (.map #[] 0)
 go_wp2
 go_loopw [9] (fun iv wr=>∃i : Nat,i<=n/\iv = .int .i64 i/\HidS (SumV wr w.heap.size i ((x.take i).foldl insC []))/\Below w.heap.size w wr) (fun iv _=>n - (intOf iv).toNat)
 case atStart=>exact ⟨0,by omega,rfl,hO,hal⟩
 case round=>
  clear hO hal
  obtain ⟨i,hi,rfl,hO,hB⟩:=hrel
  by_cases hlt : i < n
  ·obtain ⟨f,hf⟩:=lt_get HXN.out hlt
   obtain ⟨b',s2,a2,l2,k2,rfl,hb,f1,f2,f3,hv⟩:=(H.out.below hB).face hf
   have HV:=HidS.mk hv
   have HF:=HidS.mk hf
   have hfm:=List.mem_of_getElem? hf
   have HIF:=HidS.mk (HI.out f hfm)
   have HSK : HidS (Sm f.2):=⟨HSS.out.sm (nrm_le hfm)⟩
   have HSC : HidS (Sm (coef ((x.take i).foldl insC []) f.1)):=⟨HSS.out.sm (by
    have h1:=coef_nrm f.1 (x:=(x.take i).foldl insC [])
    have h2:=nrm_mak_from (l:=x.take i) (a:=[])
    have h3:=nrm_take (b:=x) (i:=i)
    simp only [nrm] at h2
    omega)⟩
   clear hv hf hfm
   go_upto_region 6 with (fail)
   refine wp_world ?_
   intro W5 hW5
   obtain ⟨hB5,T3,hs5⟩:=world1 hW5
   obtain ⟨c1,c2,c3,c4,c5,c6⟩:=T3.three
   have HV:=HidS.mk (HV.out.ext (lx hB5))
   have hO5:=HidS.mk (hO.out.below hB5)
   have hB5':=nx hB hB5
   clear hW5 f1 f2 f3 T3
   go_wp2_with fail
   refine (sadd_any _ i _ f.1 f.2 _ W5 hO5.out HV.out HIF.out HSC.out HSK.out oM).mono ?_
   rintro e w6 ⟨⟨v6,rfl⟩,h6,hg6⟩
   have hB6 : Below w.heap.size w w6:=hB5'.grown hg6 (by have:=hB5'.size; omega) (fun g hg=>by cases hg; exact Nat.le_refl _)
   have hO6 : HidS (SumV w6 w.heap.size (i + 1) ((x.take (i + 1)).foldl insC [])):=⟨by rw [foldl_sum (w:=w) (w':=w) (b:=0) (n:=0) HF.out]; exact h6⟩
   clear h6
   go_wp2
   go_roundw
   case rel=>exact ⟨i + 1,by omega,by simp,hO6,hB6⟩
   case measure=>simp [intOf]; omega
  ·obtain rfl : n = i:=by omega
   rw [take_all HXN.out] at hO
   have HVM : HidS (ValC (makC x)):=⟨ValC.mak _⟩
   have HIM : HidS (∀f ∈ makC x,I64 f.1):=⟨fun f hf=>by
    rcases makC_mem hf with ⟨g,h1,-⟩ | ⟨g,h1,h2⟩
    ·cases h1
    ·rw [<-h2]; exact HI.out g h1⟩
   have HSM : HidS (∀f ∈ makC x,Sm f.2):=⟨fun f hf=>HSS.out.sm (by
    have h1:=nrm_le hf
    have h2:=nrm_mak_from (l:=x) (a:=[])
    simp only [nrm] at h2
    unfold makC at h1
    omega)⟩
   have hln : (makC x).length<=1000000:=by
    have:=mak_len (l:=x) (a:=[])
    rw [HXN.out] at this
    simp only [List.length_nil] at this
    unfold makC
    omega
   have HLN:=HidS.mk hln
   clear hln
   go_wp2_with fail
   refine (schain_any _ n (makC x) wr hO.out HVM.out HIM.out HSM.out oM HLN.out).mono ?_
   rintro e w6 ⟨u6,rfl,h6,hb6⟩
   obtain ⟨o6,m6,q6,rfl⟩ : ∃o m q,u6 = .slice o m q:=(LsV.shape h6).elim fun o h=>h.elim fun q h=>⟨o,_,q,h.1⟩
   have H6:=HidS.mk h6
   clear h6
   go_wp2
   refine leaves_cons (f:=116) (args:=#[]) sI (by simp [go_sem]) ?_
   refine (idle_mk _).mono ?_
   rintro e u' w'' ⟨rfl,rfl,rfl⟩
   refine ⟨_,results_tmp rfl _ _ _,_,rfl,?_,nx hB hb6⟩
   exact H6.out
theorem race_disable (w : World) : (callFunc 169 #[]).run Tryz.prog w = .ok (.value (.tuple #[])) w:=run_call_mark0 Tryz.func169 kR kR kR .disable kR w
theorem race_enable (w : World) : (callFunc 171 #[]).run Tryz.prog w = .ok (.value (.tuple #[])) w:=run_call_mark0 Tryz.func171 kR kR kR .enable kR w
theorem race_acquire (a : Addr) (w : World) : (callFunc 172 #[.pointer (some a)]).run Tryz.prog w = .ok (.value (.tuple #[])) w:=run_call_marked Tryz.func172 kR kR kR .acquire kR a w
theorem race_merge (a : Addr) (w : World) : (callFunc 174 #[.pointer (some a)]).run Tryz.prog w = .ok (.value (.tuple #[])) w:=run_call_marked Tryz.func174 kR kR kR .releaseMerge kR a w
set_option maxRecDepth 100000 in
set_option maxHeartbeats 1600000 in
theorem store_deferred (a : Addr) (x : Value) (u : FrameMode) (w : World) (hc : w.cell? a = some x) (hz : w.frozen? a = false) :
  CallsD Tryz.prog 136 #[.pointer (some a),.bool true] u w fun e u' w'=>u' = u/\(e = .returned (.tuple #[])/\w' = w.drew.setCell a (.int .u32 1)):=by
 have hc' : w.drew.cell? a = some x:=by go_simp
 have hz' : w.drew.frozen? a = false:=by go_simp
 have hst:=run_call_store (P:=Tryz.prog) Tryz.func152 kR kR kR kR (k:=.u32) (y:=1) hc' hz'
 go_enter_d Tryz.func136,Tryz.ntmps136
 go_wp2
 go_region_calls
 all_goals (go_end0; exact ⟨rfl,rfl⟩)
set_option maxRecDepth 100000 in
set_option maxHeartbeats 1600000 in
theorem unlock_deferred (a : Addr) (u : FrameMode) (w : World) (hc : w.cell? a = some (.int .i32 1)) (hz : w.frozen? a = false) :
  CallsD Tryz.prog 135 #[.pointer (some a)] u w fun e u' w'=>u' = u/\(e = .returned (.tuple #[])/\w' = w.setCell a (.int .i32 0)):=by
 have hd:=race_disable
 have he:=race_enable
 have hr:=race_merge
 have hadd:=run_call_add (P:=Tryz.prog) Tryz.func175 kR kR kR .i32 kR (y:=-1) (s:=0) hc hz (by simp [go_sem]; rfl)
 have hcv:=run_convert_to_unsafe (P:=Tryz.prog) (src:=221) (dst:=225) Tryz.underlying221 Tryz.underlying225 kR hc
 go_enter_d Tryz.func135,Tryz.ntmps135
 go_wp2
 go_end0
 go_wp2
 go_end0
 exact ⟨rfl,rfl⟩
set_option maxRecDepth 100000 in
set_option maxHeartbeats 1600000 in
theorem lock_free (a : Addr) (w : World) (hc : w.cell? a = some (.int .i32 0)) (hz : w.frozen? a = false) :
  Calls Tryz.prog 134 #[.pointer (some a)] w fun e w'=>e = .returned (.tuple #[])/\w' = w.setCell a (.int .i32 1):=by
 have hd:=race_disable
 have he:=race_enable
 have ha:=race_acquire
 have hcas:=run_call_cas_hit (P:=Tryz.prog) Tryz.func170 kR kR kR .i32 kR (y:=1) hc hz
 have hc' : (w.setCell a (.int .i32 1)).cell? a = some (.int .i32 1):=World.cell?_setCell_same w a _ hc
 have hcv:=run_convert_to_unsafe (P:=Tryz.prog) (src:=221) (dst:=225) Tryz.underlying221 Tryz.underlying225 kR hc'
 go_enter Tryz.func134,Tryz.ntmps134
 go_wp2
 first | go_end0 | (simp only [Exit.inBlock,Exit.then]; refine bodyPost_ret (results_none rfl _ _ _) rfl ?_) | refine bodyPost_ret (results_none rfl _ _ _) rfl ?_
 go_wp2
 go_end0
 exact ⟨rfl,rfl⟩
set_option maxRecDepth 100000 in
set_option maxHeartbeats 1600000 in
theorem run_makeMapN {t k e : TypeId} (ht : Tryz.prog.underlying t = some (.map k e)) (n : Nat) (w : World) : (Instr.makeMap t (some (.int .i64 (n : Int)))).run Tryz.prog w = .ok (.map (some w.heap.size)) (w.alloc (.map #[] 0)):=by
 unfold Instr.makeMap
 simp [run_underlying ht,asInt,Result.andThen]
 rfl
end Go.Proofs.YtjdemlfceaikgaaGreat

namespace Go.Proofs.YtjdemlfceaikgaaGreat
open Go.RowKit Go.Maps
abbrev tImgs : TypeId:=107
abbrev tAt : TypeId:=105
def ImF (w : World) (F : Int->Option Value) (m : Mp) : Prop:=(∀i,(F i).isSome = (findM m i).isSome)/\∀i v,F i = some v->(∃o n q,v = .slice o n q)/\ChnV w v (imgM m i)
theorem ImF.te {w w' : World} {F : Int->Option Value} {m : Mp} (h : ImF w F m) (ht : TE [tFc,tU] w w') : ImF w' F m:=⟨h.1,fun i v hv=>⟨(h.2 i v hv).1,(h.2 i v hv).2.te ht⟩⟩
theorem LsV.img2 {wm w : World} {ao : Option Addr} {n cap i : Nat} {x : Mp} {f : Int × Ch} (h : MapV wm (.slice ao n cap) x) (ht : TE (imgE.T :: imgE.ts) wm w) (hi : x[i]? = some f) : ∃b o c,ao = some ⟨b,0,none⟩/\b < w.heap.size/\w.cell? ⟨b,i * 2,none⟩ = some (.int .i64 f.1)/\w.cell? ⟨b,i * 2 + 1,none⟩ = some (.slice o f.2.length c)/\ChnV wm (.slice o f.2.length c) f.2:=by
 obtain ⟨ao',n',cap',h1,h2,h3,h4,h5⟩:=h
 injection h1 with e1 e2 e3
 subst e1
 obtain ⟨b,cs,e4,e5,e6⟩:=h5 (by rintro rfl; simp at hi)
 obtain ⟨vs,e7,e8⟩:=e6 i f hi
 obtain ⟨v,rfl,hv⟩:=e8
 obtain ⟨o,c,rfl,-,-⟩:=hv.shape
 have e9:=ht _ _ _ _ List.mem_cons_self e5
 exact ⟨b,o,c,e4,(Array.getElem?_eq_some_iff.1 e9).1,(cell_of_row w b _ cs _ _ e9).trans (e7 0 _ rfl),(cell_of_row w b _ cs _ _ e9).trans (e7 1 _ rfl),hv⟩
theorem findM_app {m : Mp} {p i : Int} {x : Ch} : findM (m ++ [(p,x)]) i = match findM m i with
  | some y=>some y
  | none=>if p = i then some x else none:=by
 induction m with
 | nil=>rfl
 | cons f m ih=>
  show (if f.1 = i then some f.2 else findM (m ++ [(p,x)]) i) = match (if f.1 = i then some f.2 else findM m i) with
   | some y=>some y
   | none=>if p = i then some x else none
  by_cases e : f.1 = i
  ·rw [if_pos e,if_pos e]
  ·rw [if_neg e,if_neg e,ih]
theorem findM_new {m : Mp} (hs : m.Pairwise fun a b=>a.1 < b.1) {k : Nat} {p : Int} {x : Ch} (hf : m[k]? = some (p,x)) : findM (m.take k) p = none:=by
 rcases h : findM (m.take k) p with _ | y
 ·rfl
 ·obtain ⟨j,hj,e⟩:=List.getElem_of_mem (findM_mem h)
  rw [List.length_take] at hj
  obtain ⟨h1,h2⟩:=List.getElem?_eq_some_iff.1 hf
  rw [List.getElem_take] at e
  have:=List.pairwise_iff_getElem.1 hs j k oM h1 oM
  rw [e,h2] at this
  simp at this
theorem ImF.put {w : World} {F : Int->Option Value} {m : Mp} (hs : m.Pairwise fun a b=>a.1 < b.1) {k : Nat} {p : Int} {x : Ch} (hf : m[k]? = some (p,x)) (h : ImF w F (m.take k)) {o : Option Addr} {n q : Nat} (hv : ChnV w (.slice o n q) x) : ImF w (putK F p (.slice o n q)) (m.take (k + 1)):=by
 have hn:=findM_new hs hf
 have e1 : ∀i,findM (m.take (k + 1)) i = if i = p then some x else findM (m.take k) i:=fun i=>by
  rw [take_sn hf,findM_app]
  by_cases e : i = p
  ·rw [e,hn]
  ·rw [if_neg e,if_neg fun h=>e h.symm]
   cases findM (m.take k) i <;> rfl
 refine ⟨fun i=>?_,fun i v hi=>?_⟩
 ·rw [e1 i]
  unfold putK
  by_cases e : i = p
  ·rw [if_pos e,if_pos e]; rfl
  ·rw [if_neg e,if_neg e]; exact h.1 i
 ·unfold putK at hi
  unfold imgM
  rw [e1 i]
  by_cases e : i = p
  ·rw [if_pos e] at hi ⊢
   cases hi
   exact ⟨⟨_,_,_,rfl⟩,hv⟩
  ·rw [if_neg e] at hi ⊢
   exact h.2 i v hi
theorem grown_set (w : World) (b i : Nat) (u : Value) : w.grownBy (w.setCell ⟨b,i,none⟩ u) (some b):=by
 have h:=(Below.refl (B:=0) w).setCell (p:=⟨b,i,none⟩) (Nat.zero_le _) u
 exact ⟨h.os,h.tape,h.output,h.size,fun k hk hne=>Below.heap_setCell w ⟨b,i,none⟩ u k (fun e=>hne (by rw [e]))⟩
def NewMp (n0 : Nat) (w : World) (v : Value) : Prop:=∃g,v = .map (some g)/\n0<=g/\MpV w g 0 fun _=>none
theorem lastsB_newMp (n0 : Nat) : LastsB (NewMp n0):=fun _ _ _ b ⟨g,h1,h0,h2⟩=>⟨g,h1,h0,h2.below b⟩
theorem grown_new {w w1 w2 : World} {b g : Nat} (h1 : w.grownBy w1 (some b)) (h2 : w1.grownBy w2 (some g)) (hg : w.heap.size<=g) : w.grownBy w2 (some b):=
 ⟨h2.os.trans h1.os,h2.tape.trans h1.tape,h2.output.trans h1.output,Nat.le_trans h1.size h2.size,fun k hk hne=>(h2.block k (Nat.lt_of_lt_of_le hk h1.size) (fun e=>by cases e; omega)).trans (h1.block k hk hne)⟩
set_option maxHeartbeats 16000000 in
set_option maxRecDepth 20000 in
theorem of1_any (pb b : Nat) (mo : Option Addr) (n mc : Nat) (d s u : Value) (at0 : Value) (m : Mp) (wm w : World) (hp : w.cell? ⟨pb,0,none⟩ = some (.pointer (some ⟨b,0,none⟩))) (hpb : pb ≠ b) (hb : Blk w b tImgs #[.slice mo n mc,d,s,u,at0]) (hm : MapV wm (.slice mo n mc) m) (hT : TE (imgE.T :: imgE.ts) wm w) (hpl : pb < w.heap.size)
  (hs : m.Pairwise fun a b=>a.1 < b.1) (hi : ∀f ∈ m,I64 f.1) (hn : m.length<=1000000) :
  Calls Tryz.prog 100 #[.pointer (some ⟨pb,0,none⟩)] w fun e w'=>(∃v,e = .returned v)/\(∃g F,Blk w' b tImgs #[.slice mo n mc,d,s,u,.map (some g)]/\MpV w' g n F/\ImF wm F m/\w.heap.size<=g)/\w.grownBy w' (some b):=by
 have hl:=hm.len
 have HM:=HidS.mk hm
 have HMN:=HidS.mk hl.1
 have hn6 : n<=1000000:=by omega
 have HSR:=HidS.mk hs
 have HI:=HidS.mk hi
 have HB:=HidS.mk hb
 have hmk:=fun (n : Nat) (w : World)=>run_makeMapN (t:=tAt) Tryz.underlying105 n w
 have c0:=hb.cell 0
 have c4:=hb.cell 4
 have z4:=hb.frozen 4
 simp at c0 c4
 have hl1:=lastsB_newMp w.heap.size
 clear hm hl hs hi hb
 go_enter Tryz.func100,Tryz.ntmps100
 go_upto_region 0 with (fail)
 refine wp_serH 9 [pcD 6 [] (NewMp w.heap.size)] ?_
 refine sRd ?_
 refine sRc (fun wS hI Gk hG=>?_) (fun v6 hv6=>?_)
 ·go_simp
  exact ⟨hG _ _ ⟨_,rfl,hI.bel.size,MpV.made wS⟩,(Below.refl _ _).alloc (Nat.le_refl _) _⟩
 obtain ⟨_,-,g,rfl,hg0,-⟩:=hv6
 refine sRd ?_
 refine sRe ?_
 intro w1 hb1 h6
 obtain ⟨_,ee,-,hMp⟩:=h6
 cases ee
 have TB:=HB.out.below hb1
 have hbl:=HB.out.lt
 have c4:=TB.cell 4
 have z4:=TB.frozen 4
 simp at c4
 have hMp:=HidS.mk hMp
 have hp1 : w1.cell? ⟨pb,0,none⟩ = some (.pointer (some ⟨b,0,none⟩)):=(hb1.cell (p:=⟨pb,0,none⟩) hpl).trans hp
 clear c0
 go_upto_region 1 with (fail)
 refine wp_world ?_
 intro W2 hW2
 have hgb : g ≠ b:=by omega
 have TB2 : Blk W2 b tImgs #[.slice mo n mc,d,s,u,.map (some g)]:=by rw [hW2.out]; simpa using TB.set_ 4 (.map (some g))
 have hM2 : MpV W2 g 0 fun _=>none:=by rw [hW2.out]; exact hMp.out.setCell hgb _
 have hp2 : W2.cell? ⟨pb,0,none⟩ = some (.pointer (some ⟨b,0,none⟩)):=by
  rw [hW2.out,World.cell?_setCell_other _ _ _ _ (fun e=>hpb (congrArg Addr.block e).symm)]
  exact hp1
 have hG2 : w.grownBy W2 (some b):=by
  rw [hW2.out]
  exact (grown_of_below hb1 _).trans (grown_set w1 b 4 _)
 have hST : HidS (∃F,Blk W2 b tImgs #[.slice mo n mc,d,s,u,.map (some g)]/\MpV W2 g 0 F/\ImF wm F (m.take 0)/\w.grownBy W2 (some b)/\W2.cell? ⟨pb,0,none⟩ = some (.pointer (some ⟨b,0,none⟩))):=⟨_,TB2,hM2,⟨fun i=>rfl,fun i v h=>by cases h⟩,hG2,hp2⟩
 have c0:=TB2.cell 0
 simp at c0
 have HMM:=HidS.mk (HM.out)
 clear hW2 TB TB2 hM2 hp hp1 c4 z4 hMp hG2
 go_wp2
 go_loopw [17] (fun kv wr=>∃k : Nat,k<=n/\kv = .int .i64 k/\HidS (∃F,Blk wr b tImgs #[.slice mo n mc,d,s,u,.map (some g)]/\MpV wr g k F/\ImF wm F (m.take k)/\w.grownBy wr (some b)/\wr.cell? ⟨pb,0,none⟩ = some (.pointer (some ⟨b,0,none⟩)))) (fun kv _=>n - (intOf kv).toNat)
 case atStart=>exact ⟨0,by omega,rfl,hST⟩
 case round=>
  clear hST c0 hp2
  obtain ⟨k,hk,rfl,hR⟩:=hrel
  obtain ⟨F,r1,r2,r3,r4,r5⟩:=hR.out
  have HR1:=HidS.mk r1
  have HR2:=HidS.mk r2
  have HR3:=HidS.mk r3
  have HR4:=HidS.mk r4
  have HR5:=HidS.mk r5
  clear r1 r2 r3 r4 r5 hR
  by_cases hlt : k < n
  ·obtain ⟨f,hf⟩:=lt_get HMN.out.symm hlt
   obtain ⟨p,x⟩:=f
   have hTr : TE (imgE.T :: imgE.ts) wm wr:=by
    refine hT.trans fun b' cs t fz ht hbb=>?_
    have hne : b' ≠ b:=by
     rintro rfl
     have:=HB.out
     unfold Blk at this
     rw [this] at hbb
     injection hbb with hbb
     injection hbb with _ hbb
     rw [<-hbb] at ht
     revert ht
     decide
    exact (HR4.out.block b' (Array.getElem?_eq_some_iff.1 hbb).1 (fun e=>hne (by cases e; rfl))).trans hbb
   obtain ⟨b1,o2,q2,rfl,hb1',f1,f2,hv⟩:=HM.out.img2 hTr hf
   have HF:=HidS.mk hf
   have HV:=HidS.mk hv
   have HIF:=HidS.mk (HI.out _ (List.mem_of_getElem? hf))
   have hgr0:=HR4.out.size
   clear hf hv hTr
   go_upto_region 4 with (fail)
   refine wp_world ?_
   intro W5 hW5
   obtain ⟨hB5,T2,hs5⟩:=world1 hW5
   have HR1:=HidS.mk (HR1.out.below hB5)
   have HR2:=HidS.mk (HR2.out.below hB5)
   have r5 : W5.cell? ⟨pb,0,none⟩ = some (.pointer (some ⟨b,0,none⟩)):=(hB5.cell (p:=⟨pb,0,none⟩) (by show pb < _; omega)).trans HR5.out
   have c4:=HR1.out.cell 4
   simp at c4
   obtain ⟨t1,t2,t3,t4⟩:=T2.two
   clear hW5 f1 f2 T2
   refine wp_serH 8 [] ?_
   refine sRd ?_
   refine sRf ?_
   intro w6 hb6
   have HR1:=HidS.mk (HR1.out.below hb6)
   have HR2:=HidS.mk (HR2.out.below hb6)
   have r6 : w6.cell? ⟨pb,0,none⟩ = some (.pointer (some ⟨b,0,none⟩)):=(hb6.cell (p:=⟨pb,0,none⟩) (by show pb < _; omega)).trans r5
   have hBw:=nx hB5 hb6
   have HG6:=HidS.mk (HR4.out.trans (grown_of_below hBw (some b)))
   clear t1 t2 t3 t4 c4
   go_wp2_with (at_mapUpdate; go_loud (refine wp_put rfl _ _ _ tAt rfl tCh Tryz.underlying105 g k F rfl HR2.out oM p (.slice o2 x.length q2) rfl rfl HIF.out ?_; intro w9 hm9 hg9))
   have hST9 : HidS (∃F,Blk w9 b tImgs #[.slice (some ⟨b1,0,none⟩) n mc,d,s,u,.map (some g)]/\MpV w9 g (k + 1) F/\ImF wm F (m.take (k + 1))/\w.grownBy w9 (some b)/\w9.cell? ⟨pb,0,none⟩ = some (.pointer (some ⟨b,0,none⟩))):=by
    have hbn : b < w6.heap.size:=HR1.out.lt
    refine ⟨⟨_,(hg9.block b hbn (fun e=>hgb (by cases e; rfl))).trans HR1.out,hm9,ImF.put HSR.out HF.out HR3.out HV.out,grown_new HG6.out hg9 hg0,?_⟩⟩
    have hpn : pb < w6.heap.size:=by have:=hBw.size; omega
    have hpg : pb ≠ g:=by omega
    have:=hg9.block pb hpn (fun e=>hpg (by cases e; rfl))
    unfold World.cell? at r6 ⊢
    simp only at r6 ⊢
    rw [this]
    exact r6
   clear hm9 hg9
   go_roundw
   case rel=>exact ⟨k + 1,by omega,by simp,hST9⟩
   case measure=>simp [intOf]; omega
  ·obtain rfl : n = k:=by omega
   have hE : HidS (∃g F,Blk wr b tImgs #[.slice mo n mc,d,s,u,.map (some g)]/\MpV wr g n F/\ImF wm F m/\w.heap.size<=g):=⟨g,F,HR1.out,HR2.out,by rw [<-take_all HMN.out.symm]; exact HR3.out,hg0⟩
   go_wp2
   exact bodyPost_end (results_none rfl _ _ _) rfl ⟨⟨_,rfl⟩,hE.out,HR4.out⟩
end Go.Proofs.YtjdemlfceaikgaaGreat

namespace Go.Proofs.YtjdemlfceaikgaaGreat
open Go.RowKit
def FindMT (m : Mp) (i : Int) (w : World) (v : Value) : Prop:=∃o n q,v = .tuple #[.slice o n q,.bool (findM m i).isSome]/\ChnV w (.slice o n q) (imgM m i)
theorem findM_drop {m : Mp} {k : Int} {i : Nat} {f : Int × Ch} (h : m[i]? = some f) : findM (m.drop i) k = if f.1 = k then some f.2 else findM (m.drop (i + 1)) k:=by
 rw [drop_get h]
 rfl
set_option maxHeartbeats 8000000 in
set_option maxRecDepth 20000 in
theorem mfind_any (v : Value) (m : Mp) (k : Int) (w : World) (h : MapV w v m) :
  Calls Tryz.prog 56 #[v,.int .i64 k] w fun e w'=>∃u,e = .returned u/\FindMT m k w' u/\Below w.heap.size w w':=by
 obtain ⟨ao,ac,rfl,-,hc1⟩:=id h.shape
 obtain ⟨n,hxn⟩ : ∃n,m.length = n:=⟨_,rfl⟩
 have hl:=h.len
 rw [hxn] at h hl ⊢
 have H:=HidS.mk h
 have HXN:=HidS.mk hxn
 clear h hxn
 have hn9 : n<=9223372036854775807:=by omega
 go_enter Tryz.func56,Tryz.ntmps56
 go_wp2
 go_loopw [6] (fun iv wr=>∃i : Nat,i<=n/\iv = .int .i64 i/\HidS (findM (m.drop i) k = findM m k)/\wr = w) (fun iv _=>n - (intOf iv).toNat)
 case atStart=>exact ⟨0,by omega,rfl,⟨rfl⟩,rfl⟩
 case round=>
  obtain ⟨i,hi,rfl,hd,rfl⟩:=hrel
  by_cases hlt : i < n
  ·obtain ⟨f,hf⟩:=lt_get HXN.out hlt
   obtain ⟨b',o2,q2,rfl,hb,f1,f2,hv⟩:=H.out.img hf
   obtain ⟨p,x⟩:=f
   simp only at f1 f2 hv
   have HF:=HidS.mk hf
   have HV:=HidS.mk hv
   clear hv hf
   by_cases he : p = k
   ·subst he
    have HD : HidS (findM m p = some x):=⟨by rw [<-hd.out,findM_drop HF.out,if_pos rfl]⟩
    go_wp2
    go_ret2
    refine ⟨_,rfl,⟨_,_,_,by rw [HD.out]; rfl,?_⟩,Below.refl _ _⟩
    unfold imgM
    rw [HD.out]
    exact HV.out
   ·go_wp2
    go_roundw
    case rel=>exact ⟨i + 1,by omega,by simp,⟨by rw [<-hd.out,findM_drop HF.out,if_neg he]⟩,by first | rfl | trivial⟩
    case measure=>simp [intOf]; omega
  ·obtain rfl : n = i:=by omega
   have HD : HidS (findM m k = none):=⟨by rw [<-hd.out,List.drop_eq_nil_of_le (by rw [HXN.out]; exact Nat.le_refl _)]; rfl⟩
   go_wp2
   go_ret2
   refine ⟨_,rfl,⟨none,0,0,by rw [HD.out]; rfl,?_⟩,Below.refl _ _⟩
   unfold imgM
   rw [HD.out]
   exact LsV.nil _ _ _ _ (Nat.zero_le _)
def hasB (m : Mp) (x : Ch) : Bool:=x.all fun f=>(findM m f.1).isSome
theorem hasB_iff {m : Mp} {x : Ch} : hasB m x = true ↔ HasM m x:=by
 unfold hasB HasM
 rw [List.all_eq_true]
 exact ⟨fun h f hf=>Option.isSome_iff_exists.1 (h f hf),fun h f hf=>Option.isSome_iff_exists.2 (h f hf)⟩
def apC (m : Mp) (x : Ch) : Ch:=if hasB m x then appM m x else []
def apE (m : Mp) (x : Ch) : Int:=if hasB m x then 0 else 290
def ApT (m : Mp) (x : Ch) (w : World) (v : Value) : Prop:=∃o n q,v = .tuple #[.slice o n q,.int .i64 (apE m x)]/\ChnV w (.slice o n q) (apC m x)
set_option maxHeartbeats 8000000 in
set_option maxRecDepth 20000 in
theorem apply29_any (v u : Value) (m : Mp) (x : Ch) (w : World) (h : MapV w v m) (hx : ChnV w u x) (hA : ActOk (imgM m) x) :
  Calls Tryz.prog 63 #[v,u] w fun e w'=>∃r,e = .returned r/\ApT m x w' r/\Below w.heap.size w w':=by
 obtain ⟨ao,ac,rfl,-,-⟩:=id h.shape
 obtain ⟨bo,bc,rfl,-,-⟩:=id hx.shape
 obtain ⟨mm,hcm⟩ : ∃n,m.length = n:=⟨_,rfl⟩
 obtain ⟨n,hxn⟩ : ∃n,x.length = n:=⟨_,rfl⟩
 have hl:=hx.len
 rw [hcm] at h ⊢
 rw [hxn] at hx hl ⊢
 have hn9 : n<=9223372036854775807:=by omega
 have H:=HidS.mk h
 have HX:=HidS.mk hx
 have HXN:=HidS.mk hxn
 have HA:=HidS.mk hA
 clear h hx hxn hcm hA
 go_enter Tryz.func63,Tryz.ntmps63
 go_upto_region 2 with (fail)
 refine wp_world ?_
 intro W3 hW3
 have hB3 : Below w.heap.size w W3:=by rw [hW3.out]; exact (Below.refl _ _).alloc (Nat.le_refl _) _
 clear hW3
 have hO : HidS (ChnV W3 (.slice (some ⟨w.heap.size,0,none⟩) 0 0) (actC (imgM m) [] (x.take 0))/\hasB m (x.take 0) = true):=⟨LsV.nil _ _ _ _ (Nat.zero_le _),rfl⟩
 go_wp2
 go_loopw [6,7,8,9] (fun u iv _ _ wr=>∃i : Nat,i<=n/\iv = .int .i64 i/\HidS (ChnV wr u (actC (imgM m) [] (x.take i))/\hasB m (x.take i) = true)/\Below w.heap.size w wr) (fun _ iv _ _ _=>n - (intOf iv).toNat)
 case atStart=>exact ⟨0,by omega,rfl,hO,hB3⟩
 case round=>
  clear hO hB3
  obtain ⟨i,hi,rfl,hO,hB⟩:=hrel
  obtain ⟨uo,uc,rfl,-,-⟩:=id hO.out.1.shape
  obtain ⟨q,hq⟩ : ∃q,(actC (imgM m) [] (x.take i)).length = q:=⟨_,rfl⟩
  rw [hq] at hO ⊢
  clear hq
  by_cases hlt : i < n
  ·obtain ⟨f,hf⟩:=lt_get HXN.out hlt
   obtain ⟨b',s2,a2,l2,k2,rfl,hb,f1,f2,f3,hv⟩:=(HX.out.below hB).face hf
   have HF:=HidS.mk hf
   have HST:=HidS.mk (HA.out.step hf)
   clear hv hf
   go_wp2_with fail
   refine (mfind_any _ m f.1 wr (H.out.below hB)).mono ?_
   rintro e w5 ⟨_,rfl,⟨o,n',c',rfl,hch⟩,hb5⟩
   obtain ⟨fl,hfl⟩ : ∃q,(findM m f.1).isSome = q:=⟨_,rfl⟩
   rw [hfl]
   have HCH:=HidS.mk hch
   have HFL:=HidS.mk hfl
   have hB5:=nx hB hb5
   have hO5:=HidS.mk (show ChnV w5 _ _ from hO.out.1.below hb5)
   obtain ⟨b',s2,a2,l2,k2,eb,hb',f1,f2,f3,hv⟩:=(HX.out.below hB5).face HF.out
   cases eb
   have HV:=HidS.mk hv
   clear hch hfl hv
   have hsn : HidS (hasB m (x.take (i + 1)) = fl):=⟨by
    have h1:=hO.out.2
    unfold hasB at h1 ⊢
    rw [take_sn HF.out,List.all_append,h1,List.all_cons,List.all_nil,HFL.out]
    simp⟩
   clear hO
   cases fl
   ·have HE : HidS (hasB m x = false):=⟨by
     have h1:=HFL.out
     unfold hasB
     rw [List.all_eq_false]
     exact ⟨f,List.mem_of_getElem? HF.out,by rw [h1]; decide⟩⟩
    go_wp2
    go_ret2
    exact ⟨_,rfl,⟨none,0,0,by unfold apE; rw [HE.out]; rfl,by unfold apC; rw [HE.out]; exact LsV.nil _ _ _ _ (Nat.zero_le _)⟩,hB5⟩
   ·go_wp2_with fail
    refine (cadd_any _ _ _ _ _ f.2 w5 hO5.out HCH.out HV.out HST.out.1 HST.out.2.1 HST.out.2.2.1 HST.out.2.2.2).mono ?_
    rintro e w6 ⟨u6,rfl,h6,hb6⟩
    have hB6:=nx hB5 hb6
    have hO6 : HidS (ChnV w6 u6 (actC (imgM m) [] (x.take (i + 1)))/\hasB m (x.take (i + 1)) = true):=⟨by rw [act_snoc HF.out]; exact h6,hsn.out⟩
    clear h6
    go_wp2
    go_roundw
    case rel=>exact ⟨i + 1,by omega,by simp,hO6,hB6⟩
    case measure=>simp [intOf]; omega
  ·obtain rfl : n = i:=by omega
   rw [take_all HXN.out] at hO
   go_wp2
   go_ret2
   exact ⟨_,rfl,⟨uo,q,uc,by unfold apE; rw [hO.out.2]; rfl,by unfold apC; rw [hO.out.2]; exact hO.out.1⟩,hB⟩
theorem image29_any (v u : Value) (m : Mp) (x : Ch) (w : World) (h : MapV w v m) (hx : ChnV w u x) (hA : ActOk (imgM m) x) :
  Calls Tryz.prog 20 #[v,u] w fun e w'=>∃r,e = .returned r/\ChnV w' r (apC m x)/\Below w.heap.size w w':=by
 have HC:=HidS.mk (apply29_any v u m x w h hx hA)
 obtain ⟨ao,ac,rfl,-,-⟩:=id h.shape
 obtain ⟨bo,bc,rfl,-,-⟩:=id hx.shape
 clear h hx hA
 go_enter Tryz.func20,Tryz.ntmps20
 go_wp2_with fail
 refine HC.out.mono ?_
 rintro e w2 ⟨_,rfl,⟨o,n,k,rfl,h1⟩,hb2⟩
 go_wp2
 go_ret
 exact ⟨_,rfl,h1,hb2⟩
def coB (m n : Mp) : Bool:=m.all fun f=>hasB n f.2
def coC (m n : Mp) : Mp:=if coB m n then comM m n else []
def coE (m n : Mp) : Int:=if coB m n then 0 else 290
def CoT (m n : Mp) (w : World) (v : Value) : Prop:=∃o k q,v = .tuple #[.slice o k q,.int .i64 (coE m n)]/\MapV w (.slice o k q) (coC m n)
theorem com_sn {m n : Mp} {i : Nat} {f : Int × Ch} (h : m[i]? = some f) : comM (m.take (i + 1)) n = comM (m.take i) n ++ [(f.1,appM n f.2)]:=by
 unfold comM
 rw [take_sn h,List.map_append]
 rfl
theorem comM_len (m n : Mp) : (comM m n).length = m.length:=by unfold comM; rw [List.length_map]
set_option maxHeartbeats 8000000 in
set_option maxRecDepth 20000 in
theorem compose29_any (v u : Value) (m n : Mp) (w : World) (h : MapV w v m) (hx : MapV w u n) (hA : ∀f ∈ m,ActOk (imgM n) f.2) (hl : m.length<=1000) :
  Calls Tryz.prog 25 #[v,u] w fun e w'=>∃r,e = .returned r/\CoT m n w' r/\Below w.heap.size w w':=by
 obtain ⟨ao,ac,rfl,-,-⟩:=id h.shape
 obtain ⟨bo,bc,rfl,-,-⟩:=id hx.shape
 obtain ⟨mm,hcm⟩ : ∃k,m.length = k:=⟨_,rfl⟩
 obtain ⟨nn,hxn⟩ : ∃k,n.length = k:=⟨_,rfl⟩
 rw [hcm] at h hl ⊢
 rw [hxn] at hx ⊢
 have H:=HidS.mk h
 have HX:=HidS.mk hx
 have HCM:=HidS.mk hcm
 have HA:=HidS.mk hA
 clear h hx hxn hcm hA
 go_enter Tryz.func25,Tryz.ntmps25
 have hO : HidS (MapO (w.alloc (.cells #[] tIm)) w.heap.size (.slice (some ⟨w.heap.size,0,none⟩) 0 0) (comM (m.take 0) n)/\coB (m.take 0) n = true):=⟨LsO.made imgE w (Nat.le_refl _),rfl⟩
 have hal:=(Below.refl w.heap.size w).alloc (Nat.le_refl _) (.cells #[] tIm)
 go_wp2
 go_loopw [6,7,8,9] (fun u iv _ _ wr=>∃i : Nat,i<=mm/\iv = .int .i64 i/\HidS (MapO wr w.heap.size u (comM (m.take i) n)/\coB (m.take i) n = true)/\Below w.heap.size w wr) (fun _ iv _ _ _=>mm - (intOf iv).toNat)
 case atStart=>exact ⟨0,by omega,rfl,hO,hal⟩
 case round=>
  clear hO hal
  obtain ⟨i,hi,rfl,hO,hB⟩:=hrel
  obtain ⟨uo,uc,rfl⟩:=LsO.shape hO.out.1
  have hlm : (comM (m.take i) n).length = i:=by rw [comM_len,List.length_take,HCM.out]; omega
  rw [hlm] at hO ⊢
  have HLM:=HidS.mk hlm
  clear hlm
  by_cases hlt : i < mm
  ·obtain ⟨f,hf⟩:=lt_get HCM.out hlt
   obtain ⟨b',o2,q2,rfl,hb,f1,f2,hv⟩:=(H.out.below hB).img hf
   have HF:=HidS.mk hf
   have HV:=HidS.mk hv
   have HAF:=HidS.mk (HA.out f (List.mem_of_getElem? hf))
   clear hv hf
   go_wp2_with fail
   refine (apply29_any _ _ n f.2 wr (HX.out.below hB) HV.out HAF.out).mono ?_
   rintro e w5 ⟨_,rfl,⟨o,n',c',rfl,hch⟩,hb5⟩
   have hB5:=nx hB hb5
   obtain ⟨fl,hfl⟩ : ∃q,hasB n f.2 = q:=⟨_,rfl⟩
   have hO5:=HidS.mk (LsO.below hO.out.1 hb5)
   have hsn : HidS (coB (m.take (i + 1)) n = fl):=⟨by
    have h1:=hO.out.2
    unfold coB at h1 ⊢
    rw [take_sn HF.out,List.all_append,h1,List.all_cons,List.all_nil,hfl]
    simp⟩
   clear hO f1 f2
   cases fl
   ·have HE : HidS (coB m n = false):=⟨by
     unfold coB
     rw [List.all_eq_false]
     exact ⟨f,List.mem_of_getElem? HF.out,by rw [hfl]; decide⟩⟩
    rw [show apE n f.2 = 290 by unfold apE; rw [hfl]; rfl]
    clear hfl hch
    go_wp2
    go_ret2
    exact ⟨_,rfl,⟨none,0,0,by unfold coE; rw [HE.out]; rfl,by unfold coC; rw [HE.out]; exact LsV.nil _ _ _ _ (Nat.zero_le _)⟩,hB5⟩
   ·rw [show apE n f.2 = 0 by unfold apE; rw [hfl]; rfl]
    have HCH:=HidS.mk (show ChnV w5 (.slice o n' c') (appM n f.2) by have:=hch; unfold apC at this; rw [hfl] at this; exact this)
    clear hfl hch
    obtain ⟨b',o5,q5,eb,hb1'',f1,f2,-⟩:=(H.out.below hB5).img HF.out
    cases eb
    have hal:=(Below.refl w5.heap.size w5).alloc (Nat.le_refl _) (.cells #[.int .i64 f.1,.slice o n' c'] tIm)
    have HO14:=HidS.mk (LsO.below hO5.out hal)
    have HN14:=HidS.mk (LsO.lits (e:=imgE) (base:=0) (Blk.new w5 tIm #[.int .i64 f.1,.slice o n' c']) (Nat.zero_le _) [([.int .i64 f.1,.slice o n' c'],(f.1,appM n f.2))] rfl (List.forall_mem_cons.2 ⟨imgEE (f:=(f.1,appM n f.2)) (LsV.below HCH.out hal),fun _ h=>by cases h⟩) sI).vs
    have hsz:=hB5.size
    go_wp2_with (at_builtin; go_loud (refine appIm rfl _ _ rfl w.heap.size _ (comM (m.take i) n) rfl HO14.out _ [(f.1,appM n f.2)] rfl HN14.out (by rw [HLM.out]; show i + 1<=_; omega) (by simp; omega) ?_; intro v9 w15 hown9 hgr9 hte9))
    have hB15 : Below w.heap.size w w15:=(hB5.alloc hB5.size _).grown hgr9 (by simp; omega) (fun g hg=>by have:=HO14.out.own g hg; omega)
    have hO15 : HidS (MapO w15 w.heap.size v9 (comM (m.take (i + 1)) n)/\coB (m.take (i + 1)) n = true):=⟨by rw [com_sn HF.out]; exact hown9,hsn.out⟩
    clear hown9 hgr9 hte9
    go_roundw
    case rel=>exact ⟨i + 1,by omega,by simp,hO15,hB15⟩
    case measure=>simp [intOf]; omega
  ·obtain rfl : mm = i:=by omega
   rw [take_all HCM.out] at hO
   go_wp2
   go_ret2
   exact ⟨_,rfl,⟨uo,mm,uc,by unfold coE; rw [hO.out.2]; rfl,by unfold coC; rw [hO.out.2]; exact hO.out.1.vs⟩,hB⟩
theorem inc_sn {c : Cx} {i : Nat} {f : Cel} (h : c[i]? = some f) : incM (c.take (i + 1)) = incM (c.take i) ++ [(f.1,[(f.1,1)])]:=by
 unfold incM
 rw [take_sn h,List.map_append]
 rfl
theorem incM_len (c : Cx) : (incM c).length = c.length:=by unfold incM; rw [List.length_map]
def NewIm (f : Int × Ch) (w : World) (v : Value) : Prop:=MapV w v [f]
theorem lastsB_newIm (f : Int × Ch) : LastsB (NewIm f):=fun _ _ _ hb h=>LsV.below h hb
set_option maxHeartbeats 8000000 in
set_option maxRecDepth 20000 in
theorem incl29_any (v : Value) (c : Cx) (w : World) (h : CpxV w v c) (hl : c.length<=1000) :
  Calls Tryz.prog 13 #[v] w fun e w'=>∃r,e = .returned r/\MapV w' r (incM c)/\Below w.heap.size w w':=by
 obtain ⟨ao,ac,rfl,-,-⟩:=id h.shape
 obtain ⟨n,hcm⟩ : ∃k,c.length = k:=⟨_,rfl⟩
 rw [hcm] at h hl ⊢
 have H:=HidS.mk h
 have HCM:=HidS.mk hcm
 clear h hcm
 go_enter Tryz.func13,Tryz.ntmps13
 have hO : HidS (MapO (w.alloc (.cells #[] tIm)) w.heap.size (.slice (some ⟨w.heap.size,0,none⟩) 0 0) (incM (c.take 0))):=⟨LsO.made imgE w (Nat.le_refl _)⟩
 have hal:=(Below.refl w.heap.size w).alloc (Nat.le_refl _) (.cells #[] tIm)
 go_wp2
 go_loopw [3,4] (fun u iv wr=>∃i : Nat,i<=n/\iv = .int .i64 i/\HidS (MapO wr w.heap.size u (incM (c.take i)))/\Below w.heap.size w wr) (fun _ iv _=>n - (intOf iv).toNat)
 case atStart=>exact ⟨0,by omega,rfl,hO,hal⟩
 case round=>
  clear hO hal
  obtain ⟨i,hi,rfl,hO,hB⟩:=hrel
  obtain ⟨uo,uc,rfl⟩:=LsO.shape hO.out
  have hlm : (incM (c.take i)).length = i:=by rw [incM_len,List.length_take,HCM.out]; omega
  rw [hlm] at hO ⊢
  have HLM:=HidS.mk hlm
  clear hlm
  by_cases hlt : i < n
  ·obtain ⟨f,hf⟩:=lt_get HCM.out hlt
   obtain ⟨b',o2,q2,rfl,hb,f1,f2,f3,hv⟩:=(H.out.below hB).cel hf
   have HF:=HidS.mk hf
   clear hv hf
   have hl3:=lastsB_ls faceE [(f.1,1)]
   have hl4:=lastsB_newIm (f.1,[(f.1,1)])
   go_upto_region 5 with (fail)
   refine wp_serH 16 [pcI 11 1,pcD 13 [11] (fun w v=>ChnV w v [(f.1,1)]),pcD 15 [13] (NewIm (f.1,[(f.1,1)]))] ?_
   refine sRd ?_
   refine sRc (fun wS hI Gk hG=>by go_simp; exact ck hG (r1of_any 1 wS dE dE)) (fun _ hv=>?_)
   obtain ⟨_,-,s6,a6,l6,k6,_,rfl,-⟩:=hv
   refine sRd ?_
   refine sRc (fun wS hI h5 Gk hG=>?_) (fun v7 hv7=>?_)
   ·have hal:=(Below.refl wS.heap.size wS).alloc (Nat.le_refl _) (.cells #[.int .i64 f.1,.bool s6,.slice a6 l6 k6] tFc)
    go_simp
    exact hG _ _ (ChnV.one (Blk.new _ _ _) (IntV.ext h5 (lx hal)))
   obtain ⟨_,-,hv7⟩:=hv7
   obtain ⟨xo,xc,rfl,-,-⟩:=LsV.shape hv7
   clear hv7
   refine sRd ?_
   refine sRc (fun wS hI h13 Gk hG=>?_) (fun v15 hv15=>?_)
   ·have hal:=(Below.refl wS.heap.size wS).alloc (Nat.le_refl _) (.cells #[.int .i64 f.1,.slice xo 1 xc] tIm)
    go_simp
    exact hG _ _ (LsO.lits (e:=imgE) (base:=0) (Blk.new wS tIm #[.int .i64 f.1,.slice xo 1 xc]) (Nat.zero_le _) [([.int .i64 f.1,.slice xo 1 xc],(f.1,[(f.1,1)]))] rfl (List.forall_mem_cons.2 ⟨imgEE (f:=(f.1,[(f.1,1)])) (LsV.below h13 hal),fun _ h=>by cases h⟩) sI).vs
   obtain ⟨_,-,hv15⟩:=hv15
   obtain ⟨yo,yc,rfl,-,-⟩:=LsV.shape hv15
   clear hv15
   refine sRe ?_
   intro w5 hb5 _ _ h15
   have hB5:=nx hB hb5
   have HN:=HidS.mk (show MapV w5 _ [(f.1,[(f.1,1)])] from h15)
   have hO5:=HidS.mk (LsO.below hO.out hb5)
   have hsz:=hB5.size
   clear h15 f1 f2 f3
   go_wp2_with (at_builtin; go_loud (refine appIm rfl _ _ rfl w.heap.size _ (incM (c.take i)) rfl hO5.out _ [(f.1,[(f.1,1)])] rfl HN.out (by rw [HLM.out]; show i + 1<=_; omega) oM ?_; intro v9 w15 hown9 hgr9 hte9))
   have hB15 : Below w.heap.size w w15:=hB5.grown hgr9 oM (fun g hg=>by have:=hO5.out.own g hg; omega)
   have hO15 : HidS (MapO w15 w.heap.size v9 (incM (c.take (i + 1)))):=⟨by rw [inc_sn HF.out]; exact hown9⟩
   clear hown9 hgr9 hte9
   go_roundw
   case rel=>exact ⟨i + 1,by omega,by simp,hO15,hB15⟩
   case measure=>simp [intOf]; omega
  ·obtain rfl : n = i:=by omega
   rw [take_all HCM.out] at hO
   go_wp2
   go_ret
   exact ⟨_,rfl,hO.out.vs,hB⟩
set_option maxHeartbeats 8000000 in
set_option maxRecDepth 20000 in
theorem msame_any (va vb : Value) (a b : Mp) (w : World) (ha : MapV w va a) (hb : MapV w vb b) :
  Calls Tryz.prog 11 #[va,vb] w fun e w'=>e = .returned (.bool (decide (a = b)))/\Below w.heap.size w w':=by
 obtain ⟨ao,ac,rfl,-,hc1⟩:=id ha.shape
 obtain ⟨bo,bc,rfl,-,hc2⟩:=id hb.shape
 obtain ⟨n,hbn⟩ : ∃n,b.length = n:=⟨_,rfl⟩
 obtain ⟨m,ham⟩ : ∃m,a.length = m:=⟨_,rfl⟩
 obtain ⟨ans,han⟩ : ∃q,decide (a = b) = q:=⟨_,rfl⟩
 have h1:=hb.len
 have h2:=ha.len
 rw [hbn] at hb h1 ⊢
 rw [ham] at ha h2 ⊢
 rw [han]
 have HA:=HidS.mk ha
 have HB:=HidS.mk hb
 have HN:=HidS.mk han
 have HBN:=HidS.mk hbn
 have HAM:=HidS.mk ham
 have hm : m<=9223372036854775807:=by omega
 clear ha hb han
 go_enter Tryz.func11,Tryz.ntmps11
 by_cases hmn : m = n
 ·subst hmn
  go_wp2
  go_loopw [5] (fun iv wr=>∃i : Nat,i<=m/\iv = .int .i64 i/\HidS (a.take i = b.take i)/\Below w.heap.size w wr) (fun iv _=>m - (intOf iv).toNat)
  case atStart=>exact ⟨0,by omega,rfl,⟨rfl⟩,Below.refl _ _⟩
  case round=>
   obtain ⟨i,hi,rfl,hT,hB⟩:=hrel
   by_cases hlt : i < m
   ·obtain ⟨f,hf⟩:=lt_get HAM.out hlt
    obtain ⟨g,hg⟩:=lt_get HBN.out hlt
    obtain ⟨b1,o1,q1,rfl,hb1,f1,f2,hv1⟩:=(HA.out.below hB).img hf
    obtain ⟨b2,o2,q2,rfl,hb2,g1,g2,hv2⟩:=(HB.out.below hB).img hg
    obtain ⟨p,y⟩:=f
    obtain ⟨q,z⟩:=g
    simp only at f1 f2 g1 g2 hv1 hv2
    have HF:=HidS.mk hf
    have HG:=HidS.mk hg
    by_cases hid : p = q
    ·subst hid
     have HV1:=HidS.mk hv1
     have HV2:=HidS.mk hv2
     obtain ⟨d,hd⟩ : ∃d,decide (y = z) = d:=⟨_,rfl⟩
     have HD:=HidS.mk hd
     clear hv1 hv2 hf hg hd
     go_upto_region 6 with (fail)
     refine wp_ser [pcD 22 [] (fun _ v=>v = .bool d)] ?_
     refine sRd ?_
     refine sRc (fun wS hI Gk hG=>by go_simp; exact ck hG ((csame_any _ _ y z wS (HV1.out.below hI.bel) (HV2.out.below hI.bel)).mono fun e w' ⟨h1,h2⟩=>⟨_,h1,by rw [HD.out],h2⟩)) (fun _ hv=>?_)
     obtain ⟨_,-,rfl⟩:=hv
     refine sRd ?_
     refine sRe ?_
     intro w2 hb2' _
     have hB2:=nx hB hb2'
     cases d
     ·have hne : HidS (a = b->False):=⟨fun e=>by
       subst e
       have:=HF.out.symm.trans HG.out
       injection this with this
       injection this with _ this
       have h3:=HD.out
       rw [this] at h3
       simp at h3⟩
      go_wp2
      go_ret
      obtain rfl : ans = false:=HN.out.symm.trans (decide_eq_false hne.out)
      exact ⟨rfl,hB2⟩
     ·have he : HidS (y = z):=⟨of_decide_eq_true HD.out⟩
      clear HD
      go_wp2
      go_roundw
      case rel=>exact ⟨i + 1,by omega,by simp,⟨by rw [take_sn HF.out,take_sn HG.out,hT.out,he.out]⟩,hB2⟩
      case measure=>simp [intOf]; omega
    ·have hne : HidS (a = b->False):=⟨fun e=>by
      subst e
      have:=HF.out.symm.trans HG.out
      injection this with this
      injection this with this _
      exact hid this⟩
     have hpq : (p != q) = true:=by simpa using hid
     clear hf hg hv1 hv2 hid
     go_upto_region 6 with (fail)
     refine wp_ser [] ?_
     refine sRd ?_
     refine sRf ?_
     intro w2 hb2'
     have hB2:=nx hB hb2'
     go_wp2
     go_ret
     obtain rfl : ans = false:=HN.out.symm.trans (decide_eq_false hne.out)
     exact ⟨rfl,hB2⟩
   ·obtain rfl : m = i:=by omega
    have he : HidS (a = b):=⟨by rw [<-take_all HAM.out,<-take_all HBN.out]; exact hT.out⟩
    go_wp2
    go_ret
    obtain rfl : ans = true:=HN.out.symm.trans (decide_eq_true he.out)
    exact ⟨rfl,hB⟩
 ·have hne : HidS (a = b->False):=⟨fun e=>hmn (by rw [<-HAM.out,<-HBN.out,e])⟩
  go_wp2
  go_ret
  obtain rfl : ans = false:=HN.out.symm.trans (decide_eq_false hne.out)
  exact ⟨rfl,Below.refl _ _⟩
def valB : Ch->Bool
 | []=>true
 | f :: x=>(f.2 != 0) && (match x with | []=>true | g :: _=>decide (f.1 < g.1)) && valB x
def vupB (x : Ch) (i : Nat) : Prop:=∀j,j < i->(∀f,x[j]? = some f->f.2 ≠ 0)/\(0 < j->∀f g,x[j - 1]? = some f->x[j]? = some g->f.1 < g.1)
theorem vup_val {x : Ch} : vupB x x.length ↔ ValC x:=by
 constructor
 ·intro h
  refine ⟨?_,fun f hf=>?_⟩
  ·rw [List.pairwise_iff_getElem]
   have key : ∀d i,∀(h1 : i + d + 1 < x.length),(x[i]'oM).1 < (x[i + d + 1]'h1).1:=fun d=>by
    induction d with
    | zero=>
     intro i h1
     exact (h (i + 1) h1).2 oM _ _ (by rw [Nat.add_sub_cancel]; exact List.getElem?_eq_getElem oM) (List.getElem?_eq_getElem h1)
    | succ d ih=>
     intro i h1
     have h2:=ih i oM
     have h3:=(h (i + d + 1 + 1) oM).2 oM _ _ (by rw [Nat.add_sub_cancel]; exact List.getElem?_eq_getElem oM) (List.getElem?_eq_getElem oM)
     have h4 : i + (d + 1) + 1 = i + d + 1 + 1:=by omega
     simp only [h4]
     exact Int.lt_trans h2 h3
   intro i j hi hj hij
   obtain ⟨d,rfl⟩ : ∃d,j = i + d + 1:=⟨j - i - 1,by omega⟩
   exact key d i hj
  ·obtain ⟨i,hi,rfl⟩:=List.getElem_of_mem hf
   exact (h i hi).1 _ (List.getElem?_eq_getElem hi)
 ·intro h j hj
  refine ⟨fun f hf=>h.nz f (List.mem_of_getElem? hf),fun h0 f g hf hg=>?_⟩
  obtain ⟨h1,rfl⟩:=List.getElem?_eq_some_iff.1 hf
  obtain ⟨h2,rfl⟩:=List.getElem?_eq_some_iff.1 hg
  exact List.pairwise_iff_getElem.1 h.srt (j - 1) j h1 h2 oM
set_option maxHeartbeats 8000000 in
set_option maxRecDepth 20000 in
theorem cvalid_any (v : Value) (x : Ch) (w : World) (h : ChnV w v x) :
  Calls Tryz.prog 28 #[v] w fun e w'=>∃q,e = .returned (.bool q)/\(q = true ↔ ValC x)/\Below w.heap.size w w':=by
 obtain ⟨ao,ac,rfl,-,hc1⟩:=id h.shape
 obtain ⟨n,hxn⟩ : ∃n,x.length = n:=⟨_,rfl⟩
 have hl:=h.len
 rw [hxn] at h hl ⊢
 have hn9 : n<=9223372036854775807:=by omega
 have H:=HidS.mk h
 have HXN:=HidS.mk hxn
 have HVV : HidS (vupB x n ↔ ValC x):=⟨by rw [<-hxn]; exact vup_val⟩
 clear h hxn
 go_enter Tryz.func28,Tryz.ntmps28
 go_wp2
 go_loopw [3] (fun iv wr=>∃i : Nat,i<=n/\iv = .int .i64 i/\HidS (vupB x i)/\Below w.heap.size w wr) (fun iv _=>n - (intOf iv).toNat)
 case atStart=>exact ⟨0,by omega,rfl,⟨fun j hj=>by omega⟩,Below.refl _ _⟩
 case round=>
  obtain ⟨i,hi,rfl,hT,hB⟩:=hrel
  by_cases hlt : i < n
  ·obtain ⟨f,hf⟩:=lt_get HXN.out hlt
   obtain ⟨b1,s1,a1,l1,k1,rfl,hb1,f1,f2,f3,hv1⟩:=(H.out.below hB).face hf
   have HV:=HidS.mk hv1
   have HF:=HidS.mk hf
   obtain ⟨sg,hsg⟩ : ∃sg,cmpI f.2 0 = sg:=⟨_,rfl⟩
   have HSG:=HidS.mk hsg
   clear hv1 hf hsg
   by_cases hz : f.2 = 0
   ·have hs0 : sg = 0:=by rw [<-HSG.out]; exact cmpI_zero hz
    subst hs0
    have HNO : HidS (¬ ValC x):=⟨fun hv=>hv.nz f (List.mem_of_getElem? HF.out) hz⟩
    go_upto_region 4 with (fail)
    refine wp_ser [pcD 5 [] (fun _ v=>v = .bool true),pcD 13 [] (fun _ v=>v = .int .i64 0)] ?_
    refine sRd ?_
    refine sRc (fun wS hI Gk hG=>by go_simp; exact ck hG ((r1valid_any _ f.2 wS (HV.out.ext hI.lext)).mono fun e w' ⟨h1,h2⟩=>⟨_,h1,rfl,h2⟩)) (fun _ hv=>?_)
    obtain ⟨_,-,rfl⟩:=hv
    refine sRd ?_
    refine sRc (fun wS hI Gk hG=>by go_simp; exact ck hG ((r1sign_any _ f.2 wS (HV.out.ext hI.lext)).mono fun e w' ⟨h1,h2⟩=>⟨_,h1,by rw [HSG.out],h2⟩)) (fun _ hv=>?_)
    obtain ⟨_,-,rfl⟩:=hv
    refine sRd ?_
    refine sRe ?_
    intro w2 hb2 _ _
    go_wp2
    go_ret
    exact ⟨false,rfl,⟨fun h=>(by cases h),fun h=>absurd h HNO.out⟩,nx hB hb2⟩
   ·have hsn : (sg == 0) = false:=by
     have:=cmpI_ne hz
     rw [HSG.out] at this
     simpa using this
    by_cases hi0 : i = 0
    ·subst hi0
     have HT1 : HidS (vupB x 1):=⟨fun j hj=>by
      obtain rfl : j = 0:=by omega
      refine ⟨fun g hg=>?_,fun h=>by omega⟩
      rw [HF.out] at hg
      injection hg with hg
      rw [<-hg]
      exact hz⟩
     have h00 : ((0 : Nat) : Int) = 0:=rfl
     rw [h00]
     simp only [h00,Nat.zero_mul,Nat.zero_add] at f1 f2 f3
     go_upto_region 4 with (fail)
     refine wp_ser [pcD 5 [] (fun _ v=>v = .bool true),pcD 13 [] (fun _ v=>v = .int .i64 sg)] ?_
     refine sRd ?_
     refine sRc (fun wS hI Gk hG=>by go_simp; exact ck hG ((r1valid_any _ f.2 wS (HV.out.ext hI.lext)).mono fun e w' ⟨h1,h2⟩=>⟨_,h1,rfl,h2⟩)) (fun _ hv=>?_)
     obtain ⟨_,-,rfl⟩:=hv
     refine sRd ?_
     refine sRc (fun wS hI Gk hG=>by go_simp; exact ck hG ((r1sign_any _ f.2 wS (HV.out.ext hI.lext)).mono fun e w' ⟨h1,h2⟩=>⟨_,h1,by rw [HSG.out],h2⟩)) (fun _ hv=>?_)
     obtain ⟨_,-,rfl⟩:=hv
     refine sRd ?_
     refine sRe ?_
     intro w2 hb2 _ _
     go_wp2
     go_roundw
     case rel=>exact ⟨1,by omega,by simp,HT1,nx hB hb2⟩
     case measure=>simp [intOf]; omega
    ·obtain ⟨p,hp⟩ : ∃p,i = p + 1:=⟨i - 1,by omega⟩
     have hpn : p < n:=by omega
     obtain ⟨g,hg⟩:=lt_get HXN.out hpn
     obtain ⟨b2,s2,a2,l2,k2,eb,hb2,g1,g2,g3,hv2⟩:=(H.out.below hB).face hg
     cases eb
     have HG:=HidS.mk hg
     have hpI : (i : Int) - 1 = (p : Int):=by omega
     have hwp : IntKind.i64.wrap (p : Int) = (p : Int):=IntWalk.i64_in _ oM
     have hgt : (i : Int) > 0:=by omega
     have hgt2 : (0 : Int) < (i : Int):=by omega
     have hgt3 : 0 < i:=by omega
     obtain ⟨ans,han⟩ : ∃q,decide (g.1 ≥ f.1) = q:=⟨_,rfl⟩
     have HAN:=HidS.mk han
     have HPI:=HidS.mk hp
     clear hg hv2 hp
     go_upto_region 4 with (fail)
     refine wp_ser [pcD 5 [] (fun _ v=>v = .bool true),pcD 13 [] (fun _ v=>v = .int .i64 sg),pcD 22 [] (fun _ v=>v = .int .i64 p),pcD 31 [] (fun _ v=>v = .bool ans)] ?_
     refine sRd ?_
     refine sRc (fun wS hI Gk hG=>by go_simp; exact ck hG ((r1valid_any _ f.2 wS (HV.out.ext hI.lext)).mono fun e w' ⟨h1,h2⟩=>⟨_,h1,rfl,h2⟩)) (fun _ hv=>?_)
     obtain ⟨_,-,rfl⟩:=hv
     refine sRd ?_
     refine sRc (fun wS hI Gk hG=>by go_simp; exact ck hG ((r1sign_any _ f.2 wS (HV.out.ext hI.lext)).mono fun e w' ⟨h1,h2⟩=>⟨_,h1,by rw [HSG.out],h2⟩)) (fun _ hv=>?_)
     obtain ⟨_,-,rfl⟩:=hv
     refine sRd ?_
     refine sRc (fun wS hI Gk hG=>by go_simp; exact ⟨hG _ _ rfl,Below.refl _ _⟩) (fun va3 hv3=>?_)
     obtain ⟨_,-,hv3⟩:=hv3
     obtain rfl : va3 = .int .i64 p:=hv3
     refine sRd ?_
     refine sRc (fun wS hI Gk hG=>by go_simp; exact ⟨hG _ _ (by first | exact congrArg Value.bool HAN.out | (rw [<-HAN.out])),Below.refl _ _⟩) (fun va3 hv3=>?_)
     obtain ⟨_,-,hv3⟩:=hv3
     obtain rfl : va3 = .bool ans:=hv3
     refine sRd ?_
     refine sRe ?_
     intro w2 hb2' _ _ _ _
     cases ans
     ·have hlt' : g.1 < f.1:=by have:=of_decide_eq_false HAN.out; omega
      have HT1 : HidS (vupB x (i + 1)):=⟨fun j hj=>by
       by_cases hji : j = i
       ·subst hji
        refine ⟨fun u hu=>?_,fun _ u z hu hz'=>?_⟩
        ·rw [HF.out] at hu
         injection hu with hu
         rw [<-hu]
         exact hz
        ·rw [HPI.out,Nat.add_sub_cancel,HG.out] at hu
         rw [HF.out] at hz'
         cases hu
         cases hz'
         exact hlt'
       ·exact hT.out j oM⟩
      clear hpI hwp
      go_wp2
      go_roundw
      case rel=>exact ⟨i + 1,by omega,by simp,HT1,nx hB hb2'⟩
      case measure=>simp [intOf]; omega
     ·have HNO : HidS (¬ ValC x):=⟨fun hv=>by
       have h1:=of_decide_eq_true HAN.out
       have h2:=(HVV.out.2 hv) i hlt
       have h3:=h2.2 oM g f (by rw [HPI.out,Nat.add_sub_cancel]; exact HG.out) HF.out
       omega⟩
      go_wp2
      go_ret
      exact ⟨false,rfl,⟨fun h=>(by cases h),fun h=>absurd h HNO.out⟩,nx hB hb2'⟩
  ·obtain rfl : n = i:=by omega
   go_wp2
   go_ret
   exact ⟨true,rfl,⟨fun _=>HVV.out.1 hT.out,fun _=>rfl⟩,hB⟩
end Go.Proofs.YtjdemlfceaikgaaGreat
