/- sync.Once.doSlow, Do; (*images).of. (*images).of: the image of a cell. (*images).apply: the image of a chain. chains.Valid; complex.Cells. chains.cellsOf, Dim. -/
import Derived.Maps.AppendAt
import Derived.Test.YtjdemlfceaikgaaGreatK23
set_option linter.unusedVariables false
set_option linter.unusedSimpArgs false
set_option linter.unusedSectionVars false
namespace Go.Proofs.YtjdemlfceaikgaaGreat
open Go.RowKit Go.Maps
def ImgD (wm w : World) (b : Nat) (mo : Option Addr) (n mc : Nat) (m : Mp) : Prop:=∃g F,Blk w b tImgs #[.slice mo n mc,.int .u32 1,.int .i32 0,.int .u32 0,.map (some g)]/\MpV w g n F/\ImF wm F m
def ImgN (w : World) (b : Nat) (mo : Option Addr) (n mc : Nat) : Prop:=Blk w b tImgs #[.slice mo n mc,.int .u32 0,.int .i32 0,.int .u32 0,.map none]
theorem Blk.keepG {w w' : World} {b : Nat} {t : TypeId} {cs : Array Value} (h : Blk w b t cs) {row : Option Nat} (hg : w.grownBy w' row) (hne : some b ≠ row) : Blk w' b t cs:=(hg.block b h.lt hne).trans h
set_option maxRecDepth 100000 in
set_option maxHeartbeats 16000000 in
theorem slow_any (pb b : Nat) (mo : Option Addr) (n mc : Nat) (m : Mp) (wm w : World) (hp : w.cell? ⟨pb,0,none⟩ = some (.pointer (some ⟨b,0,none⟩))) (hpb : pb ≠ b) (hb : ImgN w b mo n mc) (hm : MapV wm (.slice mo n mc) m) (hT : TE (imgE.T :: imgE.ts) wm w) (hpl : pb < w.heap.size)
  (hs : m.Pairwise fun a b=>a.1 < b.1) (hi : ∀f ∈ m,I64 f.1) (hn : m.length<=1000000) :
  Calls Tryz.prog 120 #[.pointer (some ⟨b,1,none⟩),.func (.func 100) #[] #[.pointer (some ⟨pb,0,none⟩)]] w fun e w'=>e = .returned (.tuple #[])/\ImgD wm w' b mo n mc m/\w.grownBy w' (some b):=by
 unfold ImgN at hb
 have hbl:=hb.lt
 have h1:=hb.cell 1
 have h2:=hb.cell 2
 have f2:=hb.frozen 2
 simp at h1 h2
 obtain ⟨W1,hW1⟩ : ∃W1,w.setCell ⟨b,2,none⟩ (.int .i32 1) = W1:=⟨_,rfl⟩
 have hb1 : Blk W1 b tImgs #[.slice mo n mc,.int .u32 0,.int .i32 1,.int .u32 0,.map none]:=by rw [<-hW1]; simpa using hb.set_ 2 (.int .i32 1)
 have hg1 : w.grownBy W1 (some b):=by rw [<-hW1]; exact grown_set w b 2 _
 have hT1 : TE (imgE.T :: imgE.ts) wm W1:=by rw [<-hW1]; exact hT.trans (TE.setCell hb dE 2 _)
 have hp1 : W1.cell? ⟨pb,0,none⟩ = some (.pointer (some ⟨b,0,none⟩)):=by
  rw [<-hW1,World.cell?_setCell_other _ _ _ _ (fun e=>hpb (congrArg Addr.block e).symm)]
  exact hp
 have c1:=hb1.cell 1
 simp at c1
 have hl:=run_call_load (P:=Tryz.prog) Tryz.func133 kR kR kR .u32 kR (w:=W1) (a:=⟨b,1,none⟩) (x:=0) c1
 have hnot : ∀(x : Bool) (w : World),(Op.unary .not (.bool x)).run Tryz.prog w = .ok (.bool (!x)) w:=fun _ _=>rfl
 have HOF:=HidS.mk (of1_any pb b mo n mc (.int .u32 0) (.int .i32 1) (.int .u32 0) (.map none) m wm W1 hp1 hpb hb1 hm hT1 (by have:=hg1.size; omega) hs hi hn)
 have hsz1:=hg1.size
 clear hm hs hi hp hp1
 go_enter_defers Tryz.func120,Tryz.ntmps120
 go_wp2_with (first | (go_at_call 134; refine (lock_free ⟨b,2,none⟩ w h2 f2).mono ?_; rintro e w' ⟨rfl,rfl⟩; rw [hW1]) | (go_at_call 119; go_in) | (go_at_call 100; refine HOF.out.mono ?_; rintro e w5 ⟨⟨v5,rfl⟩,hG5,hg5⟩))
 obtain ⟨g,F,hB5,hM5,hF5,hg0⟩:=hG5
 have hgb : g ≠ b:=by omega
 have e1:=hB5.cell 1
 have e2:=hB5.cell 2
 simp at e1 e2
 have hB6 : Blk (w5.drew.setCell ⟨b,1,none⟩ (.int .u32 1)) b tImgs #[.slice mo n mc,.int .u32 1,.int .i32 1,.int .u32 0,.map (some g)]:=by
  have : Blk w5.drew b tImgs #[.slice mo n mc,.int .u32 0,.int .i32 1,.int .u32 0,.map (some g)]:=hB5.below (dr w5)
  simpa using this.set_ 1 (.int .u32 1)
 have hB7 : Blk ((w5.drew.setCell ⟨b,1,none⟩ (.int .u32 1)).setCell ⟨b,2,none⟩ (.int .i32 0)) b tImgs #[.slice mo n mc,.int .u32 1,.int .i32 0,.int .u32 0,.map (some g)]:=by
  simpa using hB6.set_ 2 (.int .i32 0)
 have hM7:=((hM5.below (dr w5)).setCell (a:=⟨b,1,none⟩) hgb (.int .u32 1)).setCell (a:=⟨b,2,none⟩) hgb (.int .i32 0)
 have hF7:=hF5
 have hg7 : w.grownBy ((w5.drew.setCell ⟨b,1,none⟩ (.int .u32 1)).setCell ⟨b,2,none⟩ (.int .i32 0)) (some b):=(((hg1.trans hg5).trans (grown_of_below (dr w5) _)).trans (grown_set _ b 1 _)).trans (grown_set _ b 2 _)
 refine leaves_cons (f:=136) (args:=#[.pointer (some ⟨b,1,none⟩),.bool true]) sI (by simp [go_sem]) ?_
 refine (store_deferred ⟨b,1,none⟩ (.int .u32 0) .returning _ e1 (hB5.frozen 1)).mono ?_
 rintro e u' w'' ⟨rfl,rfl,rfl⟩
 refine leaves_cons (f:=135) (args:=#[.pointer (some ⟨b,2,none⟩)]) (by simp [settle]) (by simp [go_sem]) ?_
 refine (unlock_deferred ⟨b,2,none⟩ _ _ (by have:=hB6.cell 2; simpa using this) (hB6.frozen 2)).mono ?_
 rintro e u' w'' ⟨rfl,rfl,rfl⟩
 simp [Leaves,settle,results,Tryz.results120]
 exact ⟨⟨g,F,hB7,hM7,hF7⟩,hg7⟩
set_option maxRecDepth 100000 in
set_option maxHeartbeats 16000000 in
theorem do_first (pb b : Nat) (mo : Option Addr) (n mc : Nat) (m : Mp) (wm w : World) (hp : w.cell? ⟨pb,0,none⟩ = some (.pointer (some ⟨b,0,none⟩))) (hpb : pb ≠ b) (hb : ImgN w b mo n mc) (hm : MapV wm (.slice mo n mc) m) (hT : TE (imgE.T :: imgE.ts) wm w) (hpl : pb < w.heap.size)
  (hs : m.Pairwise fun a b=>a.1 < b.1) (hi : ∀f ∈ m,I64 f.1) (hn : m.length<=1000000) :
  Calls Tryz.prog 99 #[.pointer (some ⟨b,1,none⟩),.func (.func 100) #[] #[.pointer (some ⟨pb,0,none⟩)]] w fun e w'=>(∃v,e = .returned v)/\ImgD wm w' b mo n mc m/\w.grownBy w' (some b):=by
 have HSL:=HidS.mk (slow_any pb b mo n mc m wm w hp hpb hb hm hT hpl hs hi hn)
 unfold ImgN at hb
 have c1:=hb.cell 1
 simp at c1
 have hl:=run_call_load (P:=Tryz.prog) Tryz.func133 kR kR kR .u32 kR (w:=w) (a:=⟨b,1,none⟩) (x:=0) c1
 have hnot : ∀(x : Bool) (w : World),(Op.unary .not (.bool x)).run Tryz.prog w = .ok (.bool (!x)) w:=fun _ _=>rfl
 clear hm hs hi hp
 go_enter Tryz.func99,Tryz.ntmps99
 go_wp2_with (first | (go_at_call 120; refine HSL.out.mono ?_; rintro e w' ⟨rfl,hD,hg⟩) | (go_at_call 119; go_in))
 exact bodyPost_end (results_none rfl _ _ _) rfl ⟨⟨_,rfl⟩,hD,hg⟩
set_option maxRecDepth 100000 in
set_option maxHeartbeats 16000000 in
theorem do_done (fv : Value) (b : Nat) (mo : Option Addr) (n mc : Nat) (at0 : Value) (w : World) (hb : Blk w b tImgs #[.slice mo n mc,.int .u32 1,.int .i32 0,.int .u32 0,at0]) :
  Calls Tryz.prog 99 #[.pointer (some ⟨b,1,none⟩),fv] w fun e w'=>(∃v,e = .returned v)/\w' = w:=by
 have c1:=hb.cell 1
 simp at c1
 have hl:=run_call_load (P:=Tryz.prog) Tryz.func133 kR kR kR .u32 kR (w:=w) (a:=⟨b,1,none⟩) (x:=1) c1
 have hnot : ∀(x : Bool) (w : World),(Op.unary .not (.bool x)).run Tryz.prog w = .ok (.bool (!x)) w:=fun _ _=>rfl
 go_enter Tryz.func99,Tryz.ntmps99
 go_wp2
 exact bodyPost_end (results_none rfl _ _ _) rfl ⟨⟨_,rfl⟩,rfl⟩
def ImgS (wm w : World) (b : Nat) (mo : Option Addr) (n mc : Nat) (m : Mp) : Prop:=ImgN w b mo n mc ∨ ImgD wm w b mo n mc m
theorem ImgD.below {wm w w' : World} {b n mc : Nat} {mo : Option Addr} {m : Mp} (h : ImgD wm w b mo n mc m) (hb : Below w.heap.size w w') : ImgD wm w' b mo n mc m:=by
 obtain ⟨g,F,h1,h2,h3⟩:=h
 exact ⟨g,F,h1.below hb,h2.below hb,h3⟩
theorem ImgN.below {w w' : World} {b n mc : Nat} {mo : Option Addr} (h : ImgN w b mo n mc) (hb : Below w.heap.size w w') : ImgN w' b mo n mc:=Blk.below h hb
theorem ImgS.below {wm w w' : World} {b n mc : Nat} {mo : Option Addr} {m : Mp} (h : ImgS wm w b mo n mc m) (hb : Below w.heap.size w w') : ImgS wm w' b mo n mc m:=by
 rcases h with h | h
 ·exact .inl (h.below hb)
 ·exact .inr (h.below hb)
theorem ImgS.lt {wm w : World} {b n mc : Nat} {mo : Option Addr} {m : Mp} (h : ImgS wm w b mo n mc m) : b < w.heap.size:=by
 rcases h with h | ⟨g,F,h,-⟩ <;> exact Blk.lt h
theorem ImgS.blk {wm w : World} {b n mc : Nat} {mo : Option Addr} {m : Mp} (h : ImgS wm w b mo n mc m) : ∃cs,Blk w b tImgs cs:=by
 rcases h with h | ⟨g,F,h,-⟩ <;> exact ⟨_,h⟩
theorem te_imgs {w w' : World} {b : Nat} {cs : Array Value} (hb : Blk w b tImgs cs) (hg : w.grownBy w' (some b)) {ts : List TypeId} (ht : tImgs ∉ ts) : TE ts w w':=TE.row hg fun g e cs' t fz hbb=>by
 cases e
 unfold Blk at hb
 rw [hb] at hbb
 injection hbb with hbb
 injection hbb with _ hbb
 rw [<-hbb]
 exact ht
theorem ImgS.te {wm w w' : World} {b n mc : Nat} {mo : Option Addr} {m : Mp} (h : ImgS wm w b mo n mc m) (hg : w.grownBy w' (some b)) {ts : List TypeId} (ht : tImgs ∉ ts) : TE ts w w':=by
 obtain ⟨cs,hb⟩:=h.blk
 exact te_imgs hb hg ht
theorem Tryz.zeroCh (w : World) : (zeroValue tCh).run Tryz.prog w = .ok (.slice none 0 0) w:=by kernel_rfl
set_option maxRecDepth 100000 in
set_option maxHeartbeats 16000000 in
theorem imgof_any (b : Nat) (mo : Option Addr) (n mc : Nat) (m : Mp) (nr : Int) (wm w : World) (h : ImgS wm w b mo n mc m) (hm : MapV wm (.slice mo n mc) m) (hT : TE (imgE.T :: imgE.ts) wm w) (hs : m.Pairwise fun a b=>a.1 < b.1) (hi : ∀f ∈ m,I64 f.1) (hn : m.length<=1000000) (hnr : I64 nr) :
  Calls Tryz.prog 53 #[.pointer (some ⟨b,0,none⟩),.int .i64 nr] w fun e w'=>∃u,e = .returned u/\FindMT m nr wm u/\ImgD wm w' b mo n mc m/\w.grownBy w' (some b):=by
 have hbl:=h.lt
 have HI:=HidS.mk hnr
 have hmf : ∀(fn : Fn) (first cap : Array Value) (w : World),(Instr.makeFunc fn first cap).run Tryz.prog w = .ok (.func fn first cap) w:=fun _ _ _ _=>rfl
 have HSS:=HidS.mk (And.intro hs (And.intro hi hn))
 have HM:=HidS.mk hm
 have HS:=HidS.mk h
 clear hs hi hm hnr h
 go_enter Tryz.func53,Tryz.ntmps53
 go_upto_region 1 with (fail)
 refine wp_world ?_
 intro W0 hW0
 obtain ⟨hB0,T1,hs0⟩:=world1 hW0
 have hp0 : W0.cell? ⟨w.heap.size,0,none⟩ = some (.pointer (some ⟨b,0,none⟩)):=by simpa using T1.cell 0
 have HS:=HidS.mk (HS.out.below hB0)
 have hT:=hT.trans (TE.below hB0 (Nat.le_refl _))
 have hpb : w.heap.size ≠ b:=by omega
 clear hW0
 rcases HS.out with hN | hD
 ·have HDO:=HidS.mk (do_first w.heap.size b mo n mc m wm W0 hp0 hpb hN HM.out hT hs0 HSS.out.1 HSS.out.2.1 HSS.out.2.2)
  clear hN
  go_wp2_with fail
  refine HDO.out.mono ?_
  rintro e w5 ⟨⟨v5,rfl⟩,hD5,hg5⟩
  clear hp0
  obtain ⟨g,F,hB5,hM5,hF5⟩:=hD5
  have hp5 : (w5).cell? ⟨w.heap.size,0,none⟩ = some (.pointer (some ⟨b,0,none⟩)):=by
   have h9:=T1.keepG hg5 (fun e=>by cases e; omega)
   simpa using h9.cell 0
  have c4:=hB5.cell 4
  simp at c4
  have hlk:=hM5.lookOk HI.out (t:=tAt) (e:=tCh) Tryz.underlying105 (Tryz.zeroCh _)
  have hFT : HidS (∃o k q,getK F (.slice none 0 0) nr = .slice o k q/\(F nr).isSome = (findM m nr).isSome/\ChnV wm (.slice o k q) (imgM m nr)):=⟨by
   unfold getK
   have h1:=hF5.1 nr
   rcases hF : F nr with _ | v
   ·rw [hF] at h1
    refine ⟨none,0,0,rfl,h1,?_⟩
    have : findM m nr = none:=by
     rcases hq : findM m nr with _ | y
     ·rfl
     ·rw [hq] at h1; cases h1
    unfold imgM
    rw [this]
    exact LsV.nil _ _ _ _ (Nat.zero_le _)
   ·obtain ⟨⟨o,k,q,rfl⟩,h2⟩:=hF5.2 nr v hF
    rw [hF] at h1
    exact ⟨o,k,q,rfl,h1,h2⟩⟩
  obtain ⟨o,k,q,hget,hsome,hch⟩:=hFT.out
  rw [hget,hsome] at hlk
  have HE : HidS (ImgD wm w5 b mo n mc m):=⟨⟨g,F,hB5,hM5,hF5⟩⟩
  have HCH:=HidS.mk hch
  clear hget hsome hch hB5 hM5 hF5 hFT
  go_wp2
  go_ret2
  exact ⟨_,rfl,⟨_,_,_,rfl,HCH.out⟩,HE.out,(grown_of_below hB0 _).trans hg5⟩
 ·obtain ⟨g0,F0,hB00,hM00,hF00⟩:=id hD
  have HDO:=HidS.mk (fun fv=>do_done fv b mo n mc (.map (some g0)) W0 hB00)
  have hg5 : W0.grownBy W0 (some b):=grown_of_below (Below.refl _ _) _
  clear hB00 hM00 hF00
  go_wp2_with fail
  refine (HDO.out _).mono ?_
  rintro e w5 ⟨⟨v5,rfl⟩,rfl⟩
  clear hp0
  obtain ⟨g,F,hB5,hM5,hF5⟩:=hD
  have hp5 : (w5).cell? ⟨w.heap.size,0,none⟩ = some (.pointer (some ⟨b,0,none⟩)):=by
   have h9:=T1.keepG hg5 (fun e=>by cases e; omega)
   simpa using h9.cell 0
  have c4:=hB5.cell 4
  simp at c4
  have hlk:=hM5.lookOk HI.out (t:=tAt) (e:=tCh) Tryz.underlying105 (Tryz.zeroCh _)
  have hFT : HidS (∃o k q,getK F (.slice none 0 0) nr = .slice o k q/\(F nr).isSome = (findM m nr).isSome/\ChnV wm (.slice o k q) (imgM m nr)):=⟨by
   unfold getK
   have h1:=hF5.1 nr
   rcases hF : F nr with _ | v
   ·rw [hF] at h1
    refine ⟨none,0,0,rfl,h1,?_⟩
    have : findM m nr = none:=by
     rcases hq : findM m nr with _ | y
     ·rfl
     ·rw [hq] at h1; cases h1
    unfold imgM
    rw [this]
    exact LsV.nil _ _ _ _ (Nat.zero_le _)
   ·obtain ⟨⟨o,k,q,rfl⟩,h2⟩:=hF5.2 nr v hF
    rw [hF] at h1
    exact ⟨o,k,q,rfl,h1,h2⟩⟩
  obtain ⟨o,k,q,hget,hsome,hch⟩:=hFT.out
  rw [hget,hsome] at hlk
  have HE : HidS (ImgD wm w5 b mo n mc m):=⟨⟨g,F,hB5,hM5,hF5⟩⟩
  have HCH:=HidS.mk hch
  clear hget hsome hch hB5 hM5 hF5 hFT
  go_wp2
  go_ret2
  exact ⟨_,rfl,⟨_,_,_,rfl,HCH.out⟩,HE.out,(grown_of_below hB0 _).trans hg5⟩
theorem run_appLsAt {α : Type} {w : World} {P : Program} {base : Nat} {v : Value} {xs ys : List α} (e : El α) (t ty : TypeId) {i0 : TypeInfo} {z : Value} {bytes : Nat} (ht : P.underlying t = some (.slice e.T)) (hi : P.info? e.T = some i0) (hz : i0.zero = some z) (hsz : i0.size = e.k) (hby : i0.bytes = bytes) (hzs : z.cells.size = e.k) (hb : bytes<=100)
  (hown : LsO e w base v xs) {yv : Value} (hy : LsV e w yv ys) (hlen : xs.length + ys.length<=1099511627776) (hbase : base<=w.heap.size) :
  ∃v' w',(Builtin.append_ #[t,t] ty #[v,yv]).run P w = .ok v' w'/\LsO e w' base v' (xs ++ ys)/\w.grownBy w' v.ownBlock/\TE e.ts w w'/\(v'.ownBlock = v.ownBlock ∨ v'.ownBlock = some w.heap.size):=by
 obtain ⟨ao,c,rfl,-,-⟩:=hy.shape
 by_cases h0 : ys = []
 ·subst h0
  obtain ⟨o,c',rfl⟩:=hown.shape
  refine ⟨_,w,run_append_none P w t ty e.T i0 ht hi o xs.length c' (fun h=>?_) ?_ ao c,by rw [List.append_nil]; exact hown,⟨rfl,rfl,rfl,Nat.le_refl _,fun _ _ _=>rfl⟩,TE.refl _ _,.inl rfl⟩
  ·obtain ⟨L,⟨-,h1⟩,-⟩:=hown
   rcases h1 with ⟨h2,h3⟩ | ⟨g,cap,cur,h2,-⟩
   ·injection h2 with _ _ h2
    exact ⟨h3,h2⟩
   ·rw [h] at h2; cases h2
  ·exact hown.vs.len.2.1
 ·obtain ⟨b,M,rfl,m1,m2,m3,m4⟩:=hy.chunks h0
  obtain ⟨L,l1,l2,l3,l4⟩:=hown.chunks
  have hp : (xs.length + ys.length) * bytes<=1099511627776 * 100:=Nat.mul_le_mul hlen hb
  obtain ⟨v',w',hr,k1,k2,-,k3⟩:=run_append_own_at (P:=P) w base t ty e.T i0 z e.k bytes ht hi hz hsz hby hzs e.pos v xs.length _ l1 ⟨b,0,none⟩ ys.length c M.flatten (by rw [flat_len m3,m1]) (fun j u hj=>by rw [Addr.add_lit,Nat.zero_add]; exact m4 j u hj) (fun u hu=>by
   obtain ⟨l,hl,hu⟩:=List.mem_flatten.1 hu
   obtain ⟨i,hi,rfl⟩:=List.getElem_of_mem hl
   exact e.one (m2 i _ _ (List.getElem?_eq_getElem hi) (List.getElem?_eq_getElem oM)) u hu) (by simp [maxLen]; omega) oM hbase
  have hT:=TE.grown l1 e.nt k2
  refine ⟨v',w',hr,⟨L ++ M,by rw [List.length_append,List.flatten_append]; exact k1,by rw [List.length_append,List.length_append,l2,m1],fun i vs x g1 g2=>?_⟩,k2,hT,k3⟩
  rcases Nat.lt_or_ge i L.length with g | g
  ·rw [List.getElem?_append_left g] at g1
   rw [List.getElem?_append_left oM] at g2
   exact e.st hT (l3 i vs x g1 g2)
  ·rw [List.getElem?_append_right g] at g1
   rw [List.getElem?_append_right oM,<-l2] at g2
   exact e.st hT (m2 _ vs x g1 g2)
theorem appFAt {w : World} {ops : Array Oper} {rest : List Oper} {o : Oper} {a : Act} {Q : Exit->Act->World->Prop} (hgd : o.guard = none) (s x : Operand) (t : TypeId) (ht : Tryz.prog.underlying t = some (.slice tFc))
  (ho : o.op = .call { callee:=.builtin .append,args:=#[s,x],argTypes:=#[t,t] })
  (base : Nat) (v : Value) (xs : Ch) (hs : a.eval s = v) (hown : ChnO w base v xs) (yv : Value) (ys : Ch) (hx : a.eval x = yv) (hy : ChnV w yv ys) (hlen : xs.length + ys.length<=10000000) (hbase : base<=w.heap.size)
  (h : ∀v' w',ChnO w' base v' (xs ++ ys)->w.grownBy w' v.ownBlock->TE [tU] w w'->(v'.ownBlock = v.ownBlock ∨ v'.ownBlock = some w.heap.size)->wpList Tryz.prog ops Q rest (a.put o.dst v') w') : wpList Tryz.prog ops Q (o :: rest) a w:=by
 obtain ⟨i0,hi,hz0,hz1,hz2⟩:=info_parts Tryz.infoF
 refine wpList_plain hgd fun _ hK=>?_
 obtain ⟨v',w',hr,h1,h2,h3,h4⟩:=run_appLsAt (P:=Tryz.prog) faceE t o.type ht hi hz0 hz1 hz2 rfl dE hown hy oM hbase
 unfold Oper.wp execOp
 simp only [ho,resolve,invoke,builtin,Sem.run_bind,Sem.run_pure,Result.andThen_ok,List.map_toArray,List.map_cons,List.map_nil,hs,hx,hr]
 exact hK _ _ (h v' w' h1 h2 h3 h4)
def preL (k : Int) (y : Ch) : Ch:=y.map fun g=>(g.1,k * g.2)
def preC (F : Int->Ch) (x : Ch) : Ch:=x.flatMap fun f=>preL f.2 (F f.1)
theorem pre_snoc {F : Int->Ch} {x : Ch} {i : Nat} {f : Int × Int} (h : x[i]? = some f) : preC F (x.take (i + 1)) = preC F (x.take i) ++ preL f.2 (F f.1):=by
 unfold preC
 rw [take_sn h,List.flatMap_append]
 simp
theorem pre_len {F : Int->Ch} : ∀{x : Ch},(preC F x).length = lenA F x:=by
 intro x
 induction x with
 | nil=>rfl
 | cons f x ih=>
  show (preL f.2 (F f.1) ++ preC F x).length = _
  rw [List.length_append,ih]
  simp [preL,lenA]
theorem nrm_app {x y : Ch} : nrm (x ++ y) = nrm x + nrm y:=by
 induction x with
 | nil=>simp [nrm]
 | cons f x ih=>simp only [List.cons_append,nrm,ih]; omega
theorem nrm_preL {k : Int} : ∀{y : Ch},nrm (preL k y) = k.natAbs * nrm y:=by
 intro y
 induction y with
 | nil=>rfl
 | cons g y ih=>
  show (k * g.2).natAbs + nrm (preL k y) = k.natAbs * (g.2.natAbs + nrm y)
  rw [ih,Int.natAbs_mul,Nat.mul_add]
theorem pre_nrm {F : Int->Ch} : ∀{x : Ch},nrm (preC F x) = nrmA F x:=by
 intro x
 induction x with
 | nil=>rfl
 | cons f x ih=>
  show nrm (preL f.2 (F f.1) ++ preC F x) = _
  rw [nrm_app,ih,nrm_preL]
  rfl
theorem lin_preL {g : Int->Int} {k : Int} : ∀{y : Ch},lin g (preL k y) = k * lin g y:=by
 intro y
 induction y with
 | nil=>simp [preL,lin]
 | cons f y ih=>
  show k * f.2 * g f.1 + lin g (preL k y) = k * (f.2 * g f.1 + lin g y)
  rw [ih,Int.mul_add,Int.mul_assoc]
theorem lin_pre {g : Int->Int} {F : Int->Ch} : ∀{x : Ch},lin g (preC F x) = lin (fun i=>lin g (F i)) x:=by
 intro x
 induction x with
 | nil=>rfl
 | cons f x ih=>
  show lin g (preL f.2 (F f.1) ++ preC F x) = _
  rw [lin_append,ih,lin_preL]
  rfl
theorem mak_pre (F : Int->Ch) (x : Ch) : makC (preC F x) = actC F [] x:=ValC.ext (ValC.mak _) (ValC.act ValC.nil) fun i=>by
 unfold coef
 rw [lin_mak,lin_act,lin_pre]
 simp [lin]
theorem pre_ids {F : Int->Ch} {x : Ch} (h : ∀i,∀g ∈ F i,I64 g.1) : ∀g ∈ preC F x,I64 g.1:=by
 intro g hg
 obtain ⟨f,-,h2⟩:=List.mem_flatMap.1 hg
 obtain ⟨q,h3,rfl⟩:=List.mem_map.1 h2
 exact h _ q h3
theorem img_ids {m : Mp} (h : ∀f ∈ m,∀g ∈ f.2,I64 g.1) (i : Int) : ∀g ∈ imgM m i,I64 g.1:=by
 unfold imgM
 rcases hf : findM m i with _ | y
 ·intro g hg; cases hg
 ·exact h _ (findM_mem hf)
theorem hasB_no {m : Mp} {x : Ch} {i : Nat} {f : Int × Int} (hf : x[i]? = some f) (h : (findM m f.1).isSome = false) : hasB m x = false:=by
 unfold hasB
 rw [List.all_eq_false]
 exact ⟨f,List.mem_of_getElem? hf,by rw [h]; decide⟩
theorem hasB_snoc {m : Mp} {x : Ch} {i : Nat} {f : Int × Int} (hf : x[i]? = some f) (h1 : hasB m (x.take i) = true) (h : (findM m f.1).isSome = true) : hasB m (x.take (i + 1)) = true:=by
 unfold hasB at h1 ⊢
 rw [take_sn hf,List.all_append,h1,List.all_cons,List.all_nil,h]
 rfl
def OwnNe (v : Value) (p : Nat) : Prop:=∀g,v.ownBlock = some g->g ≠ p
theorem ImgD.own {α : Type} {e : El α} {wm w w' : World} {b n mc base : Nat} {mo : Option Addr} {m : Mp} {v : Value} {xs : List α} (h : ImgD wm w b mo n mc m) (ho : LsO e w base v xs) (hT : e.T ∉ [tImgs]) (hg : w.grownBy w' v.ownBlock) : ImgD wm w' b mo n mc m:=by
 obtain ⟨g,F,h1,h2,h3⟩:=h
 obtain ⟨L,l1,-⟩:=ho
 refine ⟨g,F,TE.grown l1 hT hg _ _ _ _ List.mem_cons_self h1,h2.old ?_,h3⟩
 obtain ⟨D,⟨es,clock,e1,e2⟩,-⟩:=h2
 refine hg.block g (Array.getElem?_eq_some_iff.1 e1).1 fun e=>?_
 rcases l1.2 with ⟨rfl,-⟩ | ⟨g',cap,cur,rfl,-,hh,-⟩
 ·cases e
 ·injection e with e
  have e : g = g':=e
  rw [<-e,e1] at hh
  cases hh
set_option maxHeartbeats 16000000 in
set_option maxRecDepth 20000 in
theorem imgapply_any (b : Nat) (mo : Option Addr) (nm mc : Nat) (m : Mp) (u : Value) (x : Ch) (wm w : World) (h : ImgS wm w b mo nm mc m) (hm : MapV wm (.slice mo nm mc) m) (hT : TE (imgE.T :: imgE.ts) wm w) (hs : m.Pairwise fun a b=>a.1 < b.1) (hi : ∀f ∈ m,I64 f.1) (hj : ∀f ∈ m,∀g ∈ f.2,I64 g.1) (hn : m.length<=1000000) (hx : ChnV w u x) (hix : ∀f ∈ x,I64 f.1) (hA : ActOk (imgM m) x) (hl9 : lenA (imgM m) x<=900000) :
  Calls Tryz.prog 45 #[.pointer (some ⟨b,0,none⟩),u] w fun e w'=>∃r,e = .returned r/\ApT m x w' r/\ImgS wm w' b mo nm mc m/\w.grownBy w' (some b):=by
 obtain ⟨xo,xc,rfl,-,-⟩:=id hx.shape
 have hl:=hx.len
 obtain ⟨n,hxn⟩ : ∃n,x.length = n:=⟨_,rfl⟩
 rw [hxn] at hx hl ⊢
 have hn9 : n<=9223372036854775807:=by omega
 have hbl:=h.lt
 obtain ⟨cb,hcb⟩:=h.blk
 have HBL:=HidS.mk hcb
 have H:=HidS.mk h
 have HM:=HidS.mk hm
 have HT:=HidS.mk hT
 have HSS:=HidS.mk (And.intro hs (And.intro hi (And.intro hn hj)))
 have HX:=HidS.mk hx
 have HXN:=HidS.mk hxn
 have HIX:=HidS.mk hix
 have HA:=HidS.mk hA
 have HL9:=HidS.mk hl9
 have hO : HidS (ChnO w w.heap.size (.slice none 0 0) (preC (imgM m) (x.take 0))/\ImgS wm w b mo nm mc m/\w.grownBy w (some b)/\hasB m (x.take 0) = true):=⟨LsO.nil _ _ _,H.out,grown_of_below (Below.refl _ _) _,rfl⟩
 clear h hm hT hs hi hj hn hx hxn hix hA hl9 hcb
 go_enter Tryz.func45,Tryz.ntmps45
 go_wp2
 go_loopw [6,9,10,15] (fun u _ _ iv wr=>∃i : Nat,i<=n/\iv = .int .i64 i/\HidS (ChnO wr w.heap.size u (preC (imgM m) (x.take i))/\ImgS wm wr b mo nm mc m/\w.grownBy wr (some b)/\hasB m (x.take i) = true)) (fun _ _ _ iv _=>n - (intOf iv).toNat)
 case atStart=>exact ⟨0,by omega,rfl,hO⟩
 case round=>
  clear hO
  obtain ⟨i,hi,rfl,hO⟩:=hrel
  obtain ⟨uo,uc,rfl⟩:=LsO.shape hO.out.1
  obtain ⟨q,hq⟩ : ∃q,(preC (imgM m) (x.take i)).length = q:=⟨_,rfl⟩
  rw [hq] at hO ⊢
  have HQ:=HidS.mk hq
  clear hq
  have hszr:=hO.out.2.2.1.size
  by_cases hlt : i < n
  ·obtain ⟨f,hf⟩:=lt_get HXN.out hlt
   have HXr:=HidS.mk (HX.out.te (te_imgs HBL.out hO.out.2.2.1 dE))
   obtain ⟨b',s2,a2,l2,k2,rfl,hb',f1,f2,f3,hv⟩:=HXr.out.face hf
   have HF:=HidS.mk hf
   have HV:=HidS.mk hv
   have hfm:=List.mem_of_getElem? hf
   have HIF:=HidS.mk (HIX.out f hfm)
   have HST:=HidS.mk (HA.out.step hf)
   have HSP:=HidS.mk (nrmA_split (F:=imgM m) hf)
   clear hf hv hfm
   go_upto_region 5 with (fail)
   refine wp_world ?_
   intro W5 hW5
   obtain ⟨hB5,T3,hs5⟩:=world1 hW5
   obtain ⟨c1,c2,c3,c4,c5,c6⟩:=T3.three
   have T3:=HidS.mk T3
   have HV:=HidS.mk (HV.out.ext (lx hB5))
   have hG5:=hO.out.2.2.1.trans (grown_of_below hB5 (some b))
   have hT5 : TE (imgE.T :: imgE.ts) wm W5:=HT.out.trans (te_imgs HBL.out hG5 dE)
   have hpt : wr.heap.size ≠ b:=by omega
   have hI5:=HidS.mk (hO.out.2.1.below hB5)
   have hHB:=HidS.mk hO.out.2.2.2
   have HOF:=HidS.mk (imgof_any b mo nm mc m f.1 wm W5 hI5.out HM.out hT5 HSS.out.1 HSS.out.2.1 HSS.out.2.2.1 HIF.out)
   have HO5:=HidS.mk (hO.out.1.below hB5)
   have HG5:=HidS.mk hG5
   have HON : HidS (OwnNe (.slice uo q uc) wr.heap.size):=⟨fun g hg=>by have:=hO.out.1.own g hg; omega⟩
   have hsz5:=hB5.size
   clear hW5 f1 f2 f3 hO hG5 hT5
   go_wp2_with fail
   refine HOF.out.mono ?_
   rintro e w6 ⟨_,rfl,⟨o,n',c',rfl,hch⟩,hD6,hg6⟩
   obtain ⟨fl,hfl⟩ : ∃q,(findM m f.1).isSome = q:=⟨_,rfl⟩
   rw [hfl]
   have hc9:=hch.len
   obtain ⟨rfl,hc9a,hc9b⟩:=hc9
   have HCH:=HidS.mk hch
   have HFL:=HidS.mk hfl
   have HD6:=HidS.mk hD6
   have HG6:=HidS.mk (HG5.out.trans hg6)
   have HTE:=HidS.mk (show TE [tU] W5 w6 from hI5.out.te hg6 dE)
   have T6:=HidS.mk (T3.out.keepG hg6 (fun e=>hpt (by cases e; rfl)))
   have HO6:=HidS.mk (HO5.out.te (hI5.out.te hg6 dE))
   have hsz6:=hg6.size
   clear hch hfl hD6 hg6 c1 c2 c3 c4 c5 c6 hI5
   cases fl
   ·have HE:=HidS.mk (hasB_no HF.out HFL.out)
    go_wp2
    go_ret2
    exact ⟨_,rfl,⟨none,0,0,by unfold apE; rw [HE.out]; rfl,by unfold apC; rw [HE.out]; exact LsV.nil _ _ _ _ (Nat.zero_le _)⟩,.inr HD6.out,HG6.out⟩
   ·have HB9:=HidS.mk (hasB_snoc HF.out hHB.out HFL.out)
    obtain ⟨ny,hny⟩ : ∃n,(imgM m f.1).length = n:=⟨_,rfl⟩
    rw [hny] at HCH hc9a ⊢
    have HNY:=HidS.mk hny
    obtain ⟨pt,hpt2⟩ : ∃p,wr.heap.size = p:=⟨_,rfl⟩
    have hqn : q + ny<=900000:=by
     have h1:=HSP.out.2
     rw [HNY.out,<-pre_len,HQ.out] at h1
     exact Nat.le_trans h1 HL9.out
    have hst : HidS (ChnO w6 w.heap.size (.slice uo q uc) (preC (imgM m) (x.take i) ++ preL f.2 ((imgM m f.1).take 0))/\OwnNe (.slice uo q uc) pt/\Blk w6 pt tFc #[.int .i64 f.1,.bool s2,.slice a2 l2 k2]/\ImgD wm w6 b mo nm mc m/\w.grownBy w6 (some b)/\IntV w6 (.agg #[.bool s2,.slice a2 l2 k2]) f.2):=⟨by
     rw [List.take_zero,show preL f.2 [] = [] from rfl,List.append_nil]; exact HO6.out,by rw [<-hpt2]; exact HON.out,by rw [<-hpt2]; exact T6.out,HD6.out,HG6.out,HV.out.ext (HTE.out.lext dE)⟩
    have hpw : w.heap.size<=pt/\pt < w6.heap.size:=by omega
    rw [hpt2]
    obtain ⟨w1,rfl⟩ : ∃x,x = wr:=⟨_,rfl⟩
    clear hny HO6 HON T6 HD6 HG6 hpt2 HOF HO5 HG5 T3 HTE
    go_wp2
    go_loopw [6,12,30] (fun u _ jv wq=>∃j : Nat,j<=ny/\jv = .int .i64 j/\HidS (ChnO wq w.heap.size u (preC (imgM m) (x.take i) ++ preL f.2 ((imgM m f.1).take j))/\OwnNe u pt/\Blk wq pt tFc #[.int .i64 f.1,.bool s2,.slice a2 l2 k2]/\ImgD wm wq b mo nm mc m/\w.grownBy wq (some b)/\IntV wq (.agg #[.bool s2,.slice a2 l2 k2]) f.2)) (fun _ _ jv _=>ny - (intOf jv).toNat)
    case atStart=>exact ⟨0,by omega,rfl,hst⟩
    case round=>
     clear hst
     obtain ⟨j,hj,rfl,hR⟩:=hrel
     obtain ⟨vo,vc,rfl⟩:=LsO.shape hR.out.1
     obtain ⟨r,hr⟩ : ∃q,(preC (imgM m) (x.take i) ++ preL f.2 ((imgM m f.1).take j)).length = q:=⟨_,rfl⟩
     have hrq : r = q + j:=by
      rw [<-hr,List.length_append,HQ.out]
      unfold preL
      rw [List.length_map,List.length_take,HNY.out]
      omega
     rw [hr] at hR ⊢
     have HR:=HidS.mk hr
     have HRQ:=HidS.mk hrq
     clear hr hrq
     by_cases hjl : j < ny
     ·obtain ⟨g,hg⟩:=lt_get HNY.out hjl
      have HCr : HidS (ChnV wr (.slice o ny c') (imgM m f.1)):=⟨HCH.out.te ((HT.out.sub dE).trans (te_imgs HBL.out hR.out.2.2.2.2.1 dE))⟩
      obtain ⟨bj,s3,a3,l3,k3,rfl,hbj,g1,g2,g3,hv3⟩:=HCr.out.face hg
      have HGF:=HidS.mk hg
      have HV3:=HidS.mk hv3
      have hsf : HidS (Sm f.2):=⟨HST.out.2.1.sm (Nat.le_refl _)⟩
      have hsg : HidS (Sm g.2):=⟨HST.out.2.2.1.sm (nrm_le (List.mem_of_getElem? hg))⟩
      clear hg hv3
      go_upto_region 11 with (fail)
      refine wp_world ?_
      intro W8 hW8
      obtain ⟨hB8,T8,hs8⟩:=world1 hW8
      obtain ⟨d1,d2,d3,d4,d5,d6⟩:=T8.three
      obtain ⟨c1,c2,c3,c4,c5,c6⟩:=(hR.out.2.2.1.below hB8).three
      have HV8:=HidS.mk (hR.out.2.2.2.2.2.ext (lx hB8))
      have HV3:=HidS.mk (HV3.out.ext (lx hB8))
      have hl1:=lasts_int (f.2 * g.2)
      have hl2:=lastsB_ls faceE [(g.1,f.2 * g.2)]
      clear hW8 g1 g2 g3
      refine wp_serH 10 [pcD 7 [] (fun w v=>IntV w v (f.2 * g.2)),pcD 9 [7] (fun w v=>ChnV w v [(g.1,f.2 * g.2)])] ?_
      refine sRd ?_
      refine sRc (fun wS hI Gk hG=>by go_simp; exact ck hG (mul_any _ _ f.2 g.2 wS (HV8.out.ext hI.lext).weak (HV3.out.ext hI.lext).weak hsf.out hsg.out)) (fun _ hv=>?_)
      obtain ⟨_,-,s5,a5,l5,k5,_,rfl,-⟩:=hv
      refine sRd ?_
      refine sRc (fun wS hI h7 Gk hG=>?_) (fun v9 hv9=>?_)
      ·have hal:=(Below.refl wS.heap.size wS).alloc (Nat.le_refl _) (.cells #[.int .i64 g.1,.bool s5,.slice a5 l5 k5] tFc)
       go_simp
       exact hG _ _ (ChnV.one (Blk.new _ _ _) (IntV.ext h7 (lx hal)))
      obtain ⟨_,-,hv9⟩:=hv9
      obtain ⟨x1,x2,x3,rfl⟩ : ∃o m q,v9 = .slice o m q:=(LsV.shape hv9).elim fun o h=>h.elim fun q h=>⟨o,_,q,h.1⟩
      clear hv9
      refine sRe ?_
      intro w9 hb9 _ h9
      have hBw:=nx hB8 hb9
      have H9:=HidS.mk (show ChnV w9 (.slice x1 x2 x3) [(g.1,f.2 * g.2)] from h9)
      have HO9:=HidS.mk (LsO.below hR.out.1 hBw)
      have HD9:=HidS.mk (hR.out.2.2.2.1.below hBw)
      have HP9:=HidS.mk (hR.out.2.2.1.below hBw)
      have HV9:=HidS.mk (hR.out.2.2.2.2.2.ext (lx hBw))
      have HG9:=HidS.mk (hR.out.2.2.2.2.1.trans (grown_of_below hBw (some b)))
      have HN9:=HidS.mk hR.out.2.1
      have hszw : pt < w9.heap.size:=HP9.out.lt
      clear h9 c1 c2 c3 c4 c5 c6 d1 d2 d3 d4 d5 d6 hR
      go_wp2_with (at_builtin; go_loud (refine appFAt rfl _ _ 47 Tryz.underlying47 rfl w.heap.size _ (preC (imgM m) (x.take i) ++ preL f.2 ((imgM m f.1).take j)) rfl HO9.out _ [(g.1,f.2 * g.2)] rfl H9.out (by rw [HR.out,HRQ.out]; show q + j + 1<=_; omega) oM ?_; intro v10 w10 hown10 hgr10 hte10 hor10))
      have hgr10 : w9.grownBy w10 (Value.slice vo r vc).ownBlock:=hgr10
      have hor10 : v10.ownBlock = (Value.slice vo r vc).ownBlock ∨ v10.ownBlock = some w9.heap.size:=hor10
      have hR10 : HidS (ChnO w10 w.heap.size v10 (preC (imgM m) (x.take i) ++ preL f.2 ((imgM m f.1).take (j + 1)))/\OwnNe v10 pt/\Blk w10 pt tFc #[.int .i64 f.1,.bool s2,.slice a2 l2 k2]/\ImgD wm w10 b mo nm mc m/\w.grownBy w10 (some b)/\IntV w10 (.agg #[.bool s2,.slice a2 l2 k2]) f.2):=by
       refine ⟨?_,?_,HP9.out.keepG hgr10 (fun e=>HN9.out pt e.symm rfl),HD9.out.own HO9.out dE hgr10,?_,HV9.out.ext (hte10.lext dE)⟩
       ·rw [take_sn HGF.out,show preL f.2 ((imgM m f.1).take j ++ [g]) = preL f.2 ((imgM m f.1).take j) ++ [(g.1,f.2 * g.2)] from List.map_append,<-List.append_assoc]
        exact hown10
       ·intro g0 hg0
        rcases hor10 with e | e
        ·exact HN9.out g0 (e ▸ hg0)
        ·rw [e] at hg0
         injection hg0 with hg0
         omega
       ·rcases hov : (Value.slice vo r vc).ownBlock with _ | g0
        ·rw [hov] at hgr10
         exact HG9.out.trans ⟨hgr10.os,hgr10.tape,hgr10.output,hgr10.size,fun k hk _=>hgr10.block k hk sI⟩
        ·rw [hov] at hgr10
         exact grown_new HG9.out hgr10 (HO9.out.own g0 hov).1
      clear hown10 hgr10 hte10 hor10
      go_roundw
      case rel=>exact ⟨j + 1,by omega,by simp,hR10⟩
      case measure=>simp [intOf]; omega
     ·obtain rfl : ny = j:=by omega
      rw [take_all HNY.out] at hR
      have hR2 : HidS (ChnO wr w.heap.size (.slice vo r vc) (preC (imgM m) (x.take (i + 1)))):=⟨by rw [pre_snoc HF.out]; exact hR.out.1⟩
      go_wp2
      go_roundw
      case rel=>exact ⟨i + 1,by omega,by simp,⟨hR2.out,.inr hR.out.2.2.2.1,hR.out.2.2.2.2.1,HB9.out⟩⟩
      case measure=>simp [intOf]; omega
  ·obtain rfl : n = i:=by omega
   rw [take_all HXN.out] at hO HQ
   have hq9 : q<=900000:=by rw [<-HQ.out,pre_len]; exact HL9.out
   go_wp2_with fail
   refine (cmk_any _ (preC (imgM m) x) wr hO.out.1.vs (pre_ids (img_ids HSS.out.2.2.2)) (by rw [pre_nrm]; exact HA.out.sm) (by rw [HQ.out]; exact hq9)).mono ?_
   rintro e w6 ⟨u6,rfl,h6,hb6⟩
   obtain ⟨o6,m6,q6,rfl⟩ : ∃o m q,u6 = .slice o m q:=(LsV.shape h6).elim fun o h=>h.elim fun q h=>⟨o,_,q,h.1⟩
   have H6:=HidS.mk h6
   clear h6
   go_wp2
   go_ret2
   exact ⟨_,rfl,⟨o6,m6,q6,by unfold apE; rw [hO.out.2.2.2]; rfl,by unfold apC; rw [hO.out.2.2.2,if_pos rfl]; unfold appM; rw [<-mak_pre]; exact H6.out⟩,hO.out.2.1.below hb6,hO.out.2.2.1.trans (grown_of_below hb6 _)⟩
set_option maxHeartbeats 8000000 in
set_option maxRecDepth 20000 in
theorem chvalid_any (v : Value) (x : Ch) (w : World) (h : ChnV w v x) :
  Calls Tryz.prog 42 #[v] w fun e w'=>∃q,e = .returned (.bool q)/\(q = true ↔ ValC x)/\Below w.heap.size w w':=by
 obtain ⟨ao,ac,rfl,-,hc1⟩:=id h.shape
 obtain ⟨n,hxn⟩ : ∃n,x.length = n:=⟨_,rfl⟩
 have hl:=h.len
 rw [hxn] at h hl ⊢
 have hn9 : n<=9223372036854775807:=by omega
 have H:=HidS.mk h
 have HXN:=HidS.mk hxn
 have HVV : HidS (vupB x n ↔ ValC x):=⟨by rw [<-hxn]; exact vup_val⟩
 clear h hxn
 go_enter_defers Tryz.func42,Tryz.ntmps42
 go_wp2
 go_loopw [3,7] (fun _ iv wr=>∃i : Nat,i<=n/\iv = .int .i64 i/\HidS (vupB x i)/\Below w.heap.size w wr) (fun _ iv _=>n - (intOf iv).toNat)
 case atStart=>exact ⟨0,by omega,rfl,⟨fun j hj=>by omega⟩,Below.refl _ _⟩
 case round=>
  obtain ⟨i,hi,rfl,hT,hB⟩:=hrel
  by_cases hlt : i < n
  ·obtain ⟨f,hf⟩:=lt_get HXN.out hlt
   obtain ⟨b1,s1,a1,l1,k1,rfl,hb1,f1,f2,f3,hv1⟩:=(H.out.below hB).face hf
   have HV:=HidS.mk hv1
   have HF:=HidS.mk hf
   obtain ⟨sg,hsg⟩ : ∃sg,cmpI f.2 0 = sg:=⟨_,rfl⟩
   have HSG:=HidS.mk hsg
   clear hv1 hf hsg
   by_cases hi0 : i = 0
   ·subst hi0
    have HT1 : HidS (f.2 ≠ 0->vupB x 1):=⟨fun hz j hj=>by
     obtain rfl : j = 0:=by omega
     refine ⟨fun g hg=>?_,fun h=>by omega⟩
     rw [HF.out] at hg
     injection hg with hg
     rw [<-hg]
     exact hz⟩
    have h00 : ((0 : Nat) : Int) = 0:=rfl
    rw [h00]
    simp only [h00,Nat.zero_mul,Nat.zero_add] at f1 f2 f3
    go_upto_region 5 with (fail)
    refine wp_world ?_
    intro W5 hW5
    obtain ⟨hB5,T3,hs5⟩:=world1 hW5
    have HT5:=HidS.mk T3
    obtain ⟨c1,c2,c3,c4,c5,c6⟩:=T3.three
    have hB5':=nx hB hB5
    clear hW5 f1 f2 f3 T3
    go_upto_region 5 with (fail)
    refine wp_ser [] ?_
    refine sRd ?_
    refine sRf ?_
    intro w6 hb6
    have HV6:=HidS.mk (HV.out.ext (lx (nx hB5 hb6)))
    have HT6:=HidS.mk (HT5.out.below hb6)
    have hB6:=nx hB5' hb6
    clear c1 c2 c3 c4 c5 c6
    obtain ⟨c1,c2,c3,c4,c5,c6⟩:=HT6.out.three
    go_wp2_with fail
    refine (valid_any _ f.2 w6 HV6.out).mono ?_
    rintro e w7 ⟨rfl,hb7⟩
    have HV7:=HidS.mk (HV6.out.ext (lx hb7))
    clear c1 c2 c3 c4 c5 c6
    obtain ⟨c1,c2,c3,c4,c5,c6⟩:=(HT6.out.below hb7).three
    have hB7:=nx hB6 hb7
    go_wp2_with fail
    refine (sign_any _ f.2 w7 HV7.out.weak).mono ?_
    rintro e w8 ⟨rfl,hb8⟩
    rw [HSG.out]
    have hB8:=nx hB7 hb8
    clear c1 c2 c3 c4 c5 c6
    by_cases hz : f.2 = 0
    ·obtain rfl : sg = 0:=by rw [<-HSG.out]; exact cmpI_zero hz
     have HNO : HidS (¬ ValC x):=⟨fun hv=>hv.nz f (List.mem_of_getElem? HF.out) hz⟩
     clear hz
     go_wp2
     refine leaves_cons (f:=84) (args:=#[]) sI (by simp [go_sem]) ?_
     refine (idle_va _).mono ?_
     rintro e u' w'' ⟨rfl,rfl,rfl⟩
     exact ⟨_,results_tmp rfl _ _ _,false,rfl,⟨fun h=>(by cases h),fun h=>absurd h HNO.out⟩,hB8⟩
    ·have hsn : (sg == 0) = false:=by
      have:=cmpI_ne hz
      rw [HSG.out] at this
      simpa using this
     have HT2:=HidS.mk (HT1.out hz)
     clear hz
     go_wp2
     go_roundw
     case rel=>exact ⟨1,by omega,by simp,HT2,hB8⟩
     case measure=>simp [intOf]; omega
   ·obtain ⟨p,hp⟩ : ∃p,i = p + 1:=⟨i - 1,by omega⟩
    have hpn : p < n:=by omega
    obtain ⟨g,hg⟩:=lt_get HXN.out hpn
    have HG:=HidS.mk hg
    have hpI : (i : Int) - 1 = (p : Int):=by omega
    have hwp : IntKind.i64.wrap (p : Int) = (p : Int):=IntWalk.i64_in _ oM
    have hgt : (i : Int) > 0:=by omega
    have hgt2 : (0 : Int) < (i : Int):=by omega
    have hgt3 : 0 < i:=by omega
    obtain ⟨ans,han⟩ : ∃q,decide (g.1 ≥ f.1) = q:=⟨_,rfl⟩
    have HAN:=HidS.mk han
    have HPI:=HidS.mk hp
    clear hg hp
    go_upto_region 5 with (fail)
    refine wp_world ?_
    intro W5 hW5
    obtain ⟨hB5,T3,hs5⟩:=world1 hW5
    have HT5:=HidS.mk T3
    obtain ⟨c1,c2,c3,c4,c5,c6⟩:=T3.three
    have hB5':=nx hB hB5
    clear hW5 f1 f2 f3 T3
    obtain ⟨b2,s2,a2,l2,k2,eb,hb2,g1,g2,g3,hv2⟩:=(H.out.below hB5').face HG.out
    cases eb
    clear hv2
    refine wp_ser [pcD 5 [] (fun _ v=>v = .int .i64 p),pcD 11 [] (fun _ v=>v = .bool ans)] ?_
    refine sRd ?_
    refine sRc (fun wS hI Gk hG=>by go_simp; exact ⟨hG _ _ rfl,Below.refl _ _⟩) (fun va3 hv3=>?_)
    obtain ⟨_,-,hv3⟩:=hv3
    obtain rfl : va3 = .int .i64 p:=hv3
    refine sRd ?_
    refine sRc (fun wS hI Gk hG=>by go_simp; exact ⟨hG _ _ (by first | exact congrArg Value.bool HAN.out | (rw [<-HAN.out])),Below.refl _ _⟩) (fun va3 hv3=>?_)
    obtain ⟨_,-,hv3⟩:=hv3
    obtain rfl : va3 = .bool ans:=hv3
    refine sRd ?_
    refine sRe ?_
    intro w6 hb6 _ _
    have HV6:=HidS.mk (HV.out.ext (lx (nx hB5 hb6)))
    have HT6:=HidS.mk (HT5.out.below hb6)
    have hB6:=nx hB5' hb6
    clear c1 c2 c3 c4 c5 c6 g1 g2 g3 hpI hwp hgt hgt2 hgt3
    cases ans
    ·have hlt' : HidS (g.1 < f.1):=⟨by have:=of_decide_eq_false HAN.out; omega⟩
     have HT1 : HidS (f.2 ≠ 0->vupB x (i + 1)):=⟨fun hz j hj=>by
      by_cases hji : j = i
      ·subst hji
       refine ⟨fun u hu=>?_,fun _ u z hu hz'=>?_⟩
       ·rw [HF.out] at hu
        injection hu with hu
        rw [<-hu]
        exact hz
       ·rw [HPI.out,Nat.add_sub_cancel,HG.out] at hu
        rw [HF.out] at hz'
        cases hu
        cases hz'
        exact hlt'.out
      ·exact hT.out j oM⟩
     clear HAN
     obtain ⟨c1,c2,c3,c4,c5,c6⟩:=HT6.out.three
     go_wp2_with fail
     refine (valid_any _ f.2 w6 HV6.out).mono ?_
     rintro e w7 ⟨rfl,hb7⟩
     have HV7:=HidS.mk (HV6.out.ext (lx hb7))
     clear c1 c2 c3 c4 c5 c6
     obtain ⟨c1,c2,c3,c4,c5,c6⟩:=(HT6.out.below hb7).three
     have hB7:=nx hB6 hb7
     go_wp2_with fail
     refine (sign_any _ f.2 w7 HV7.out.weak).mono ?_
     rintro e w8 ⟨rfl,hb8⟩
     rw [HSG.out]
     have hB8:=nx hB7 hb8
     clear c1 c2 c3 c4 c5 c6
     by_cases hz : f.2 = 0
     ·obtain rfl : sg = 0:=by rw [<-HSG.out]; exact cmpI_zero hz
      have HNO : HidS (¬ ValC x):=⟨fun hv=>hv.nz f (List.mem_of_getElem? HF.out) hz⟩
      clear hz
      go_wp2
      refine leaves_cons (f:=84) (args:=#[]) sI (by simp [go_sem]) ?_
      refine (idle_va _).mono ?_
      rintro e u' w'' ⟨rfl,rfl,rfl⟩
      exact ⟨_,results_tmp rfl _ _ _,false,rfl,⟨fun h=>(by cases h),fun h=>absurd h HNO.out⟩,hB8⟩
     ·have hsn : (sg == 0) = false:=by
       have:=cmpI_ne hz
       rw [HSG.out] at this
       simpa using this
      have HT2:=HidS.mk (HT1.out hz)
      clear hz
      go_wp2
      go_roundw
      case rel=>exact ⟨i + 1,by omega,by simp,HT2,hB8⟩
      case measure=>simp [intOf]; omega
    ·have HNO : HidS (¬ ValC x):=⟨fun hv=>by
      have h1:=of_decide_eq_true HAN.out
      have h2:=(HVV.out.2 hv) i hlt
      have h3:=h2.2 oM g f (by rw [HPI.out,Nat.add_sub_cancel]; exact HG.out) HF.out
      omega⟩
     clear HAN
     go_wp2
     refine leaves_cons (f:=84) (args:=#[]) sI (by simp [go_sem]) ?_
     refine (idle_va _).mono ?_
     rintro e u' w'' ⟨rfl,rfl,rfl⟩
     exact ⟨_,results_tmp rfl _ _ _,false,rfl,⟨fun h=>(by cases h),fun h=>absurd h HNO.out⟩,hB6⟩
  ·obtain rfl : n = i:=by omega
   go_wp2
   refine leaves_cons (f:=84) (args:=#[]) sI (by simp [go_sem]) ?_
   refine (idle_va _).mono ?_
   rintro e u' w'' ⟨rfl,rfl,rfl⟩
   exact ⟨_,results_tmp rfl _ _ _,true,rfl,⟨fun _=>HVV.out.1 hT.out,fun _=>rfl⟩,hB⟩
set_option maxHeartbeats 8000000 in
set_option maxRecDepth 20000 in
theorem pcells_any (v : Value) (c : Cx) (k : Int) (w : World) (h : CpxV w v c) (hn : c.length<=1000000) :
  Calls Tryz.prog 52 #[v,.int .i64 k] w fun e w'=>∃u,e = .returned u/\IdsO w' w.heap.size u (cellsC c k)/\Below w.heap.size w w':=by
 obtain ⟨ao,ac,rfl,-,hc1⟩:=id h.shape
 obtain ⟨n,hxn⟩ : ∃n,c.length = n:=⟨_,rfl⟩
 rw [hxn] at h hn ⊢
 have H:=HidS.mk h
 have HXN:=HidS.mk hxn
 clear h hxn
 go_enter Tryz.func52,Tryz.ntmps52
 have hO : IdsO w w.heap.size (.slice none 0 0) (cellsC (c.take 0) k):=LsO.nil _ _ _
 have HO:=HidS.mk hO
 clear hO
 go_wp2
 go_loopw [5,10] (fun u iv wr=>∃i : Nat,i<=n/\iv = .int .i64 i/\HidS (IdsO wr w.heap.size u (cellsC (c.take i) k))/\Below w.heap.size w wr) (fun _ iv _=>n - (intOf iv).toNat)
 case atStart=>exact ⟨0,by omega,rfl,HO,Below.refl _ _⟩
 case round=>
  clear HO
  obtain ⟨i,hi,rfl,hO,hB⟩:=hrel
  obtain ⟨uo,uc,rfl⟩:=id hO.out.shape
  have hlen : (cellsC (c.take i) k).length<=i:=by
   have:=cells_len (c:=c.take i) (k:=k)
   rw [List.length_take] at this
   omega
  obtain ⟨q,hq⟩ : ∃q,(cellsC (c.take i) k).length = q:=⟨_,rfl⟩
  rw [hq] at hO hlen ⊢
  have HQ:=HidS.mk hq
  clear hq
  by_cases hlt : i < n
  ·obtain ⟨f,hf⟩:=lt_get HXN.out hlt
   obtain ⟨b',o2,c2,rfl,hb,f1,f2,f3,hv⟩:=(H.out.below hB).cel hf
   have HF:=HidS.mk hf
   clear hv hf
   go_upto_region 5 with (fail)
   refine wp_world ?_
   intro W5 hW5
   obtain ⟨hB5,T3,hs5⟩:=world1 hW5
   obtain ⟨c1,c2,c3,c4,c5,c6⟩:=T3.three
   have hB5':=nx hB hB5
   have hO5:=HidS.mk (hO.out.below hB5)
   clear hW5 f1 f2 f3 T3 hO
   by_cases hd : f.2.1 = k
   ·have hal:=(Below.refl W5.heap.size W5).alloc (Nat.le_refl _) (.cells #[.int .i64 f.1] tInt)
    have HO2:=HidS.mk (hO5.out.below hal)
    have hsz:=hB5'.size
    go_wp2_with (at_builtin; go_loud (refine appIn rfl _ _ rfl w.heap.size _ (cellsC (c.take i) k) rfl HO2.out _ [f.1] rfl (IdsV.one (Blk.new _ _ _)) (by rw [HQ.out]; simp; omega) (by simp; omega) ?_; intro v2 w2 hown2 hgr2))
    have hB2 : Below w.heap.size w w2:=(hB5'.alloc hB5'.size _).grown hgr2 (by simp; omega) (fun g hg=>by have:=HO2.out.own g hg; omega)
    go_roundw
    case rel=>exact ⟨i + 1,by omega,by simp,⟨by rw [cells_snoc HF.out,if_pos hd]; exact hown2⟩,hB2⟩
    case measure=>simp [intOf]; omega
   ·go_wp2
    go_roundw
    case rel=>exact ⟨i + 1,by omega,by simp,⟨by rw [cells_snoc HF.out,if_neg hd,List.append_nil]; exact hO5.out⟩,hB5'⟩
    case measure=>simp [intOf]; omega
  ·obtain rfl : n = i:=by omega
   rw [take_all HXN.out] at hO
   go_wp2
   go_ret
   exact ⟨_,rfl,hO.out,hB⟩
abbrev tMii : TypeId:=168
theorem Tryz.zeroN (w : World) : (zeroValue tInt).run Tryz.prog w = .ok (.int .i64 0) w:=by kernel_rfl
def idxF (c : Cx) : Nat->Int->Option Value
 | 0=>fun _=>none
 | n + 1=>putK (idxF c n) (idN c n) (.int .i64 n)
theorem idxF_some {c : Cx} {k : Int} {v : Value} : ∀{n : Nat},idxF c n k = some v->∃j,j < n/\v = .int .i64 j/\idN c j = k:=by
 intro n
 induction n with
 | zero=>intro h; cases h
 | succ n ih=>
  intro h
  unfold idxF putK at h
  by_cases e : k = idN c n
  ·rw [if_pos e] at h
   cases h
   exact ⟨n,by omega,rfl,e.symm⟩
  ·rw [if_neg e] at h
   obtain ⟨j,h1,h2⟩:=ih h
   exact ⟨j,by omega,h2⟩
theorem idxF_none {c : Cx} {k : Int} : ∀{n : Nat},idxF c n k = none->∀j,j < n->idN c j ≠ k:=by
 intro n
 induction n with
 | zero=>intro _ j hj; omega
 | succ n ih=>
  intro h j hj
  unfold idxF putK at h
  by_cases e : k = idN c n
  ·rw [if_pos e] at h
   cases h
  ·rw [if_neg e] at h
   by_cases hjn : j = n
   ·rw [hjn]; exact fun e2=>e e2.symm
   ·exact ih h j oM
theorem idN_get {c : Cx} {j : Nat} {f : Cel} (h : c[j]? = some f) : idN c j = f.1:=by
 unfold idN
 rw [List.getD_eq_getElem?_getD,h]
 rfl
theorem idx_find {c : Cx} {n : Nat} (hs : c.Pairwise fun a b=>a.1 < b.1) (hn : c.length = n) (k : Int) :
  (getK (idxF c n) (.int .i64 0) k = .int .i64 0/\(idxF c n k).isSome = false/\findC c k = none) ∨ ∃(j : Nat) (f : Cel),j < n/\c[j]? = some f/\getK (idxF c n) (.int .i64 0) k = .int .i64 j/\(idxF c n k).isSome = true/\findC c k = some f:=by
 unfold getK
 rcases h : idxF c n k with _ | v
 ·refine .inl ⟨rfl,rfl,?_⟩
  rcases hf : findC c k with _ | q
  ·rfl
  ·obtain ⟨h1,h2⟩:=findC_mem hf
   obtain ⟨j,hj,rfl⟩:=List.getElem_of_mem h1
   exact absurd (by rw [idN_get (List.getElem?_eq_getElem hj)]; exact h2) (idxF_none h j oM)
 ·obtain ⟨j,h1,rfl,h3⟩:=idxF_some h
  obtain ⟨f,hf⟩:=lt_get hn h1
  rw [idN_get hf] at h3
  exact .inr ⟨j,f,h1,hf,rfl,rfl,by rw [<-h3]; exact findC_srt hs (List.mem_of_getElem? hf)⟩
theorem dimGo_none {c : Cx} {f : Int × Int} (hn : findC c f.1 = none) : ∀{x : Ch},f ∈ x->∀b d m,dimGo c x b d m = (0,250):=by
 intro x
 induction x with
 | nil=>intro h; cases h
 | cons g x ih=>
  intro h b d m
  unfold dimGo
  rcases hg : findC c g.1 with _ | q
  ·rfl
  ·rcases List.mem_cons.1 h with rfl | h
   ·rw [hn] at hg; cases hg
   ·exact ih h _ _ _
theorem dimGo_tr {c : Cx} : ∀{x : Ch},(∀f ∈ x,(findC c f.1).isSome = true)->∀b d,dimGo c x b d true = (0,260):=by
 intro x
 induction x with
 | nil=>intro _ b d; rfl
 | cons g x ih=>
  intro h b d
  unfold dimGo
  rcases hg : findC c g.1 with _ | q
  ·have:=h g (List.mem_cons_self ..)
   rw [hg] at this
   cases this
  ·exact ih (fun f hf=>h f (List.mem_cons_of_mem _ hf)) _ _
theorem dimGo_cons {c : Cx} {f : Int × Int} {x : Ch} {b m : Bool} {d : Int} (h : (findC c f.1).isSome = true) : dimGo c (f :: x) b d m = dimGo c x false (celD c f.1).2.1 (m || (!b && ((celD c f.1).2.1 != d))):=by
 show (match findC c f.1 with | none=>((0,250) : Int × Int) | some q=>dimGo c x false q.2.1 (m || (!b && (q.2.1 != d)))) = _
 unfold celD
 rcases hg : findC c f.1 with _ | q
 ·rw [hg] at h; cases h
 ·rfl
theorem appCe2 {w : World} {ops : Array Oper} {rest : List Oper} {o : Oper} {a : Act} {Q : Exit->Act->World->Prop} (hgd : o.guard = none) (s x : Operand)
  (ho : o.op = .call { callee:=.builtin .append,args:=#[s,x],argTypes:=#[30,30] })
  (base : Nat) (v : Value) (xs : Cx) (hs : a.eval s = v) (hown : CpxO w base v xs) (yv : Value) (ys : Cx) (hx : a.eval x = yv) (hy : CpxV w yv ys) (hlen : xs.length + ys.length<=10000000) (hbase : base<=w.heap.size)
  (h : ∀v' w',CpxO w' base v' (xs ++ ys)->w.grownBy w' v.ownBlock->TE [tFc,tU] w w'->wpList Tryz.prog ops Q rest (a.put o.dst v') w') : wpList Tryz.prog ops Q (o :: rest) a w:=by
 obtain ⟨i0,hi,hz0,hz1,hz2⟩:=info_parts Tryz.infoCe
 exact wpList_appLs hgd cellE s x 30 ho Tryz.underlying30 hi hz0 hz1 hz2 rfl dE base v xs hs hown yv ys hx hy oM hbase fun v' w' h1 h2 h3=>h v' w' h1 h2 h3
def lisC (c : Cx) (x : Ch) : Cx:=x.map fun f=>celD c f.1
theorem lisC_sn {c : Cx} {x : Ch} {i : Nat} {f : Int × Int} (h : x[i]? = some f) : lisC c (x.take (i + 1)) = lisC c (x.take i) ++ [celD c f.1]:=by
 unfold lisC
 rw [take_sn h,List.map_append]
 rfl
theorem lisC_len (c : Cx) (x : Ch) : (lisC c x).length = x.length:=by unfold lisC; rw [List.length_map]
theorem lisC_get {c : Cx} {x : Ch} {i : Nat} {f : Int × Int} (h : x[i]? = some f) : (lisC c x)[i]? = some (celD c f.1):=by
 unfold lisC
 rw [List.getElem?_map,h]
 rfl
theorem celD_some {c : Cx} {k : Int} {f : Cel} (h : findC c k = some f) : celD c k = f:=by unfold celD; rw [h]; rfl
def CofT (c : Cx) (x : Ch) (w : World) (v : Value) : Prop:=∃o k q,v = .tuple #[.slice o k q,.int .i64 (dimC c x).1,.int .i64 (dimC c x).2]/\CpxV w (.slice o k q) (if (dimC c x).2 = 0 then lisC c x else [])
set_option maxHeartbeats 16000000 in
set_option maxRecDepth 20000 in
theorem cellsof_any (v u : Value) (c : Cx) (x : Ch) (w : World) (h : CpxV w v c) (hx : ChnV w u x) (hs : c.Pairwise fun a b=>a.1 < b.1) (hI : ∀f ∈ c,I64 f.1) (hJ : ∀f ∈ x,I64 f.1) (hn : c.length<=1000000) (hl : x.length<=1000000) :
  Calls Tryz.prog 88 #[v,u] w fun e w'=>∃r,e = .returned r/\CofT c x w' r/\Below w.heap.size w w':=by
 obtain ⟨ao,ac,rfl,-,-⟩:=id h.shape
 obtain ⟨bo,bc,rfl,-,-⟩:=id hx.shape
 obtain ⟨m,hcm⟩ : ∃n,c.length = n:=⟨_,rfl⟩
 obtain ⟨n,hxn⟩ : ∃n,x.length = n:=⟨_,rfl⟩
 rw [hcm] at h hn ⊢
 rw [hxn] at hx hl ⊢
 obtain ⟨d1,d2,hd⟩ : ∃d1 d2,dimC c x = (d1,d2):=⟨_,_,rfl⟩
 unfold CofT
 rw [hd]
 have H:=HidS.mk h
 have HX:=HidS.mk hx
 have HCM:=HidS.mk hcm
 have HXN:=HidS.mk hxn
 have HS:=HidS.mk hs
 have HI:=HidS.mk hI
 have HJ:=HidS.mk hJ
 have HD:=HidS.mk hd
 clear h hx hcm hxn hs hI hJ hd
 have hmm:=fun (n : Nat) (w : World)=>run_makeMapN (t:=tMii) Tryz.underlying168 n w
 go_enter Tryz.func88,Tryz.ntmps88
 have hO : HidS (MpV (w.alloc (.map #[] 0)) w.heap.size 0 (idxF c 0)):=⟨MpV.made w⟩
 have hal:=(Below.refl w.heap.size w).alloc (Nat.le_refl _) (.map #[] 0)
 go_wp2
 go_loopw [8,23] (fun _ iv wr=>∃i : Nat,i<=m/\iv = .int .i64 i/\HidS (MpV wr w.heap.size i (idxF c i))/\Below w.heap.size w wr) (fun _ iv _=>m - (intOf iv).toNat)
 case atStart=>exact ⟨0,by omega,rfl,hO,hal⟩
 case round=>
  clear hO hal
  obtain ⟨i,hi,rfl,hO,hB⟩:=hrel
  by_cases hlt : i < m
  ·obtain ⟨f,hf⟩:=lt_get HCM.out hlt
   obtain ⟨b',o2,k2,rfl,hb,f1,f2,f3,hv⟩:=(H.out.below hB).cel hf
   have HIN:=HidS.mk (idN_get hf)
   have HIF:=HidS.mk (HI.out _ (List.mem_of_getElem? hf))
   clear hv hf
   go_upto_region 5 with (fail)
   refine wp_world ?_
   intro W5 hW5
   obtain ⟨hB5,T3,hs5⟩:=world1 hW5
   obtain ⟨c1,c2,c3,c4,c5,c6⟩:=T3.three
   have hB5':=nx hB hB5
   have hO5:=HidS.mk (hO.out.below hB5)
   clear hW5 f1 f2 f3 T3 hO
   go_wp2_with (at_mapUpdate; go_loud (refine wp_put rfl _ _ _ tMii rfl tInt Tryz.underlying168 w.heap.size i _ rfl hO5.out oM f.1 (.int .i64 i) rfl rfl HIF.out ?_; intro w6 hp6 hg6))
   have hB6 : Below w.heap.size w w6:=hB5'.grown hg6 (by have:=hB5'.size; omega) (fun g hg=>by cases hg; exact Nat.le_refl _)
   have hO6 : HidS (MpV w6 w.heap.size (i + 1) (idxF c (i + 1))):=⟨by unfold idxF; rw [HIN.out]; exact hp6⟩
   clear hp6 hg6
   go_roundw
   case rel=>exact ⟨i + 1,by omega,by simp,hO6,hB6⟩
   case measure=>simp [intOf]; omega
  ·obtain rfl : m = i:=by omega
   obtain ⟨w1,rfl⟩ : ∃x,x = wr:=⟨_,rfl⟩
   have hL : HidS (CpxO w1 w1.heap.size (.slice none 0 0) (lisC c (x.take 0))/\∀f ∈ x.take 0,(findC c f.1).isSome = true):=⟨LsO.nil _ _ _,fun f hf=>by cases hf⟩
   go_wp2
   go_loopw [10,13,14,35] (fun u _ _ iv wr=>∃i : Nat,i<=n/\iv = .int .i64 i/\HidS (CpxO wr w1.heap.size u (lisC c (x.take i))/\∀f ∈ x.take i,(findC c f.1).isSome = true)/\Below w1.heap.size w1 wr) (fun _ _ _ iv _=>n - (intOf iv).toNat)
   case atStart=>exact ⟨0,by omega,rfl,hL,Below.refl _ _⟩
   case round=>
    clear hL
    obtain ⟨i,hi,rfl,hL,hB2⟩:=hrel
    obtain ⟨uo,uc,rfl⟩:=LsO.shape hL.out.1
    have hq:=lisC_len c (x.take i)
    have hqi : (x.take i).length = i:=by rw [List.length_take,HXN.out]; omega
    rw [hqi] at hq
    rw [hq] at hL ⊢
    have HQ:=HidS.mk hq
    clear hq hqi
    have hBr:=hB.trans (hB2.mono hB.size)
    by_cases hlt : i < n
    ·obtain ⟨f,hf⟩:=lt_get HXN.out hlt
     obtain ⟨b',s2,a2,l2,k2,rfl,hb,f1,f2,f3,hv⟩:=(HX.out.below hBr).face hf
     have HF:=HidS.mk hf
     have HJF:=HidS.mk (HJ.out _ (List.mem_of_getElem? hf))
     clear hv hf
     go_upto_region 11 with (fail)
     refine wp_world ?_
     intro W5 hW5
     obtain ⟨hB5,T3,hs5⟩:=world1 hW5
     obtain ⟨c1,c2,c3,c4,c5,c6⟩:=T3.three
     have hB5':=nx hBr hB5
     have hB52:=nx hB2 hB5
     have hM5:=(hO.out.below (nx hB2 hB5 |>.mono (Nat.le_refl _)))
     have hlk:=hM5.lookOk HJF.out (t:=tMii) (e:=tInt) Tryz.underlying168 (Tryz.zeroN _)
     have hL5:=HidS.mk (And.intro (hL.out.1.below hB5) hL.out.2)
     clear hW5 f1 f2 f3 T3 hL hM5
     rcases idx_find HS.out HCM.out f.1 with ⟨e1,e2,e3⟩ | ⟨j,g,hj,hg,e1,e2,e3⟩
     ·rw [e1,e2] at hlk
      obtain ⟨rfl,rfl⟩ : (0 : Int) = d1/\(250 : Int) = d2:=by
       have h1:=HD.out
       unfold dimC at h1
       rw [dimGo_none e3 (List.mem_of_getElem? HF.out)] at h1
       cases h1
       exact ⟨rfl,rfl⟩
      clear e1 e2 e3
      go_wp2
      go_ret3
      exact ⟨_,rfl,⟨_,_,_,rfl,LsV.nil _ _ _ _ (Nat.zero_le _)⟩,hB5'⟩
     ·rw [e1,e2] at hlk
      have HE3:=HidS.mk e3
      have HGG:=HidS.mk hg
      obtain ⟨b4,o4,q4,rfl,hb4,g1,g2,g3,hv4⟩:=(H.out.below hB5').cel hg
      have hal:=(Below.refl W5.heap.size W5).alloc (Nat.le_refl _) (.cells #[.int .i64 g.1,.int .i64 g.2.1,.slice o4 g.2.2.length q4] tCe)
      have HN:=HidS.mk (LsO.lits (e:=cellE) (base:=0) (Blk.new W5 tCe #[.int .i64 g.1,.int .i64 g.2.1,.slice o4 g.2.2.length q4]) (Nat.zero_le _) [([.int .i64 g.1,.int .i64 g.2.1,.slice o4 g.2.2.length q4],g)] rfl (List.forall_mem_cons.2 ⟨celE (f:=g) (LsV.below hv4 hal),fun _ h=>by cases h⟩) sI).vs
      have HL6:=HidS.mk (LsO.below hL5.out.1 hal)
      have hsz:=hB52.size
      clear hv4 hg e1 e2 e3 hal
      go_wp2_with (at_builtin; go_loud (refine appCe2 rfl _ _ rfl w1.heap.size _ (lisC c (x.take i)) rfl HL6.out _ [g] rfl HN.out (by rw [HQ.out]; show i + 1<=_; omega) (by simp; omega) ?_; intro v9 w9 hown9 hgr9 hte9))
      have hB9 : Below w1.heap.size w1 w9:=(hB52.alloc hB52.size _).grown hgr9 (by simp; omega) (fun g hg=>by have:=HL6.out.own g hg; omega)
      have hL9 : HidS (CpxO w9 w1.heap.size v9 (lisC c (x.take (i + 1)))/\∀f ∈ x.take (i + 1),(findC c f.1).isSome = true):=⟨by rw [lisC_sn HF.out,celD_some HE3.out]; exact hown9,by
       rw [take_sn HF.out]
       intro z hz
       rcases List.mem_append.1 hz with hz | hz
       ·exact hL5.out.2 z hz
       ·rw [List.mem_singleton.1 hz,HE3.out]; rfl⟩
      clear hown9 hgr9 hte9
      go_roundw
      case rel=>exact ⟨i + 1,by omega,by simp,hL9,hB9⟩
      case measure=>simp [intOf]; omega
    ·obtain rfl : n = i:=by omega
     rw [take_all HXN.out] at hL
     obtain ⟨w2,rfl⟩ : ∃x,x = wr:=⟨_,rfl⟩
     have HST : HidS (dimGo c (x.drop 0) true (-1) false = (d1,d2)):=⟨HD.out⟩
     have HL:=HidS.mk hL.out.1.vs
     have HAL:=HidS.mk hL.out.2
     clear hL
     go_wp2
     go_loopw [15,16,58] (fun dv _ iv wr=>∃(i : Nat) (d : Int),i<=n/\iv = .int .i64 i/\dv = .int .i64 d/\HidS (dimGo c (x.drop i) (i == 0) d false = (d1,d2))/\Below w2.heap.size w2 wr) (fun _ _ iv _=>n - (intOf iv).toNat)
     case atStart=>exact ⟨0,-1,by omega,rfl,rfl,HST,Below.refl _ _⟩
     case round=>
      clear HST
      obtain ⟨i,d,hi,rfl,rfl,hst,hB3⟩:=hrel
      have hB3':=hBr.trans (hB3.mono hBr.size)
      by_cases hlt : i < n
      ·obtain ⟨f,hf⟩:=lt_get HXN.out hlt
       have hfs:=HAL.out f (List.mem_of_getElem? hf)
       obtain ⟨b4,o4,q4,rfl,hb4,g1,g2,g3,hv4⟩:=(HL.out.below hB3).cel (lisC_get (c:=c) hf)
       have HST:=HidS.mk (show dimGo c (x.drop (i + 1)) false (celD c f.1).2.1 (false || (!(i == 0) && ((celD c f.1).2.1 != d))) = (d1,d2) by rw [<-dimGo_cons hfs,<-drop_get hf]; exact hst.out)
       obtain ⟨e2,he2⟩ : ∃q,(celD c f.1).2.1 = q:=⟨_,rfl⟩
       obtain ⟨ff,hff⟩ : ∃q,celD c f.1 = q:=⟨_,rfl⟩
       rw [he2] at HST
       rw [hff] at g1 g2 g3
       have he2 : ff.2.1 = e2:=by rw [<-hff]; exact he2
       rw [he2] at g2
       clear hst hfs hf hff he2 hv4
       by_cases hi0 : i = 0
       ·subst hi0
        have h00 : ((0 : Nat) : Int) = 0:=rfl
        have HST1 : HidS (dimGo c (x.drop 1) (1 == 0) e2 false = (d1,d2)):=⟨by simpa using HST.out⟩
        rw [h00]
        simp only [h00,Nat.zero_mul,Nat.zero_add] at g1 g2 g3
        go_upto_region 20 with (fail)
        refine wp_world ?_
        intro W5 hW5
        obtain ⟨hB5,T3,hs5⟩:=world1 hW5
        obtain ⟨c1,c2,c3,c4,c5,c6⟩:=T3.three
        have hB5':=nx hB3 hB5
        clear hW5 g1 g2 g3 T3 HST
        go_wp2
        go_roundw
        case rel=>exact ⟨1,e2,by omega,by simp,rfl,HST1,hB5'⟩
        case measure=>simp [intOf]; omega
       ·have hgt : (i : Int) > 0:=by omega
        have hgt2 : (0 : Int) < (i : Int):=by omega
        have hgt3 : 0 < i:=by omega
        have hib : (i == 0) = false:=by simpa using hi0
        rw [hib] at HST
        go_upto_region 20 with (fail)
        refine wp_world ?_
        intro W5 hW5
        obtain ⟨hB5,T3,hs5⟩:=world1 hW5
        obtain ⟨c1,c2,c3,c4,c5,c6⟩:=T3.three
        have hB5':=nx hB3 hB5
        clear hW5 g1 g2 g3 T3 hib
        by_cases hde : e2 = d
        ·subst hde
         have HST1 : HidS (dimGo c (x.drop (i + 1)) (i + 1 == 0) e2 false = (d1,d2)):=⟨by simpa using HST.out⟩
         clear HST
         go_wp2
         go_roundw
         case rel=>exact ⟨i + 1,e2,by omega,by simp,rfl,HST1,hB5'⟩
         case measure=>simp [intOf]; omega
        ·have hne : (e2 != d) = true:=by simpa using hde
         obtain ⟨rfl,rfl⟩ : (0 : Int) = d1/\(260 : Int) = d2:=by
          have h1:=HST.out
          rw [hne] at h1
          rw [show (false || (!false && true)) = true from rfl,dimGo_tr (fun z hz=>HAL.out z (List.mem_of_mem_drop hz))] at h1
          cases h1
          exact ⟨rfl,rfl⟩
         clear HST hde
         go_wp2
         go_ret3
         exact ⟨_,rfl,⟨_,_,_,rfl,LsV.nil _ _ _ _ (Nat.zero_le _)⟩,hBr.trans (hB5'.mono hBr.size)⟩
      ·obtain rfl : n = i:=by omega
       have hst:=hst.out
       rw [List.drop_eq_nil_of_le (by rw [HXN.out]; exact Nat.le_refl _)] at hst
       obtain ⟨rfl,rfl⟩ : d = d1/\(0 : Int) = d2:=by
        unfold dimGo at hst
        cases hst
        exact ⟨rfl,rfl⟩
       have HLF:=HidS.mk (HL.out.below hB3)
       clear hst
       go_wp2
       go_ret3
       exact ⟨_,rfl,⟨_,_,_,rfl,HLF.out⟩,hB3'⟩
set_option maxHeartbeats 8000000 in
set_option maxRecDepth 20000 in
theorem chdim_any (v u : Value) (c : Cx) (x : Ch) (w : World) (h : CpxV w v c) (hx : ChnV w u x) (hs : c.Pairwise fun a b=>a.1 < b.1) (hI : ∀f ∈ c,I64 f.1) (hJ : ∀f ∈ x,I64 f.1) (hn : c.length<=1000000) (hl : x.length<=1000000) :
  Calls Tryz.prog 43 #[v,u] w fun e w'=>e = .returned (.tuple #[.int .i64 (dimC c x).1,.int .i64 (dimC c x).2])/\Below w.heap.size w w':=by
 have HC:=HidS.mk (cellsof_any v u c x w h hx hs hI hJ hn hl)
 obtain ⟨ao,ac,rfl,-,-⟩:=id h.shape
 obtain ⟨bo,bc,rfl,-,-⟩:=id hx.shape
 obtain ⟨d1,d2,hd⟩ : ∃d1 d2,dimC c x = (d1,d2):=⟨_,_,rfl⟩
 unfold CofT at HC
 rw [hd] at HC ⊢
 clear h hx hs hI hJ hn hl hd
 go_enter_defers Tryz.func43,Tryz.ntmps43
 go_wp2_with fail
 refine HC.out.mono ?_
 rintro e w2 ⟨_,rfl,⟨o,k,q,rfl,-⟩,hb2⟩
 go_wp2
 refine leaves_cons (f:=87) (args:=#[]) sI (by simp [go_sem]) ?_
 refine (idle_di _).mono ?_
 rintro e u' w'' ⟨rfl,rfl,rfl⟩
 exact ⟨_,results_tmp2 rfl _ _ _,rfl,hb2⟩
end Go.Proofs.YtjdemlfceaikgaaGreat
