/- Division of limbs. Division of limbs: the call. Division of limbs: the long case, and all cases. integer.DivMod. The reference's integers, first part: Made, Of, Sign, Valid, Neg, Abs. The reference's integers, second part: Sign, Valid, Neg, Abs, less, Same. The reference's integers, third part: plus, minus. The reference's integers, fourth part: minus, Add, Sub, Cmp. The reference's integers, fifth part: Sub, Cmp, Same. A region that draws its order, proved by an invariant over the set of operations that have come up: one step a operation, whatever the order. -/
import Derived.StillTail
import Derived.Test.YtjdemlfceaikgaaGreatK01
set_option linter.unusedVariables false
set_option linter.unusedSimpArgs false
set_option linter.unusedSectionVars false
namespace Go.Proofs.YtjdemlfceaikgaaGreat
open Go.RowKit
/-! ### plain -/
theorem nat_split (xs : List Nat) (k : Nat) (h : k<=xs.length) : nat xs = nat (xs.take k) + B32 ^ k * nat (xs.drop k):=by
 have:=nat_append (xs.take k) (xs.drop k)
 rw [List.take_append_drop,List.length_take,Nat.min_eq_left h] at this
 exact this
theorem put_drop {us ms : List Nat} {off : Nat} (h : off<=us.length) : (put us off ms).drop off = ms ++ us.drop (off + ms.length):=by
 unfold put
 rw [List.append_assoc,List.drop_append,List.drop_eq_nil_of_le (by simp; omega)]
 simp [Nat.min_eq_left h]
theorem put_take {us ms : List Nat} {off : Nat} (h : off<=us.length) : (put us off ms).take off = us.take off:=by
 unfold put
 rw [List.append_assoc,List.take_append_of_le_length (by simp; omega),List.take_take,Nat.min_self]
theorem div_arith (a V p B t q r : Nat) : a * V * (p * B) + (t + p * (q * V + r)) = (q + B * a) * V * p + (t + p * r):=by
 simp only [Nat.add_mul,Nat.mul_add]
 have e1 : a * V * (p * B) = B * a * V * p:=by simp only [Nat.mul_assoc,Nat.mul_comm,Nat.mul_left_comm]
 have e2 : p * (q * V) = q * V * p:=Nat.mul_comm _ _
 omega
structure DivSt (X V : Nat) (n k : Nat) (ul qs : List Nat) : Prop where
 lim : Limbs ul
 qlim : Limbs qs
 eq : X = nat (qs.drop k) * V * B32 ^ k + nat ul
 lt : nat (ul.drop k) < V
theorem DivSt.zero {X V n k : Nat} {ul qs : List Nat} (h : DivSt X V n k ul qs) (hV : V < B32 ^ n) (hl : k + n<=ul.length) : nat (ul.drop (k + n)) = 0:=by
 have h1:=nat_split (ul.drop k) n (by simp; omega)
 rw [List.drop_drop] at h1
 have h2:=h.lt
 rcases Nat.eq_zero_or_pos (nat (ul.drop (k + n))) with h0 | h0
 ·exact h0
 ·have:=Nat.le_mul_of_pos_right (B32 ^ n) h0; omega
theorem DivSt.seg_eq {X V n j : Nat} {ul qs : List Nat} (h : DivSt X V n (j + 1) ul qs) (hV : V < B32 ^ n) (hl : j + 1 + n<=ul.length) : nat (seg ul j (n + 1)) = nat (ul.drop j):=by
 have h1:=nat_split (ul.drop j) (n + 1) (by simp; omega)
 rw [List.drop_drop,show j + (n + 1) = j + 1 + n by omega,h.zero hV hl] at h1
 unfold seg
 omega
theorem DivSt.step {X V n j q : Nat} {ul qs rs : List Nat} (h : DivSt X V n (j + 1) ul qs) (hV : V < B32 ^ n) (hl : j + 1 + n<=ul.length) (hq : j < qs.length) (hqB : q < 4294967296)
  (hrl : rs.length = n + 1) (hrs : Limbs rs) (heq : nat (seg ul j (n + 1)) = q * V + nat rs) (hlt : nat rs < V) : DivSt X V n j (put ul j rs) (qs.set j q):=by
 have hz:=h.zero hV hl
 have hd : nat ((put ul j rs).drop j) = nat rs:=by
  rw [put_drop oM,nat_append,hrl,show j + (n + 1) = j + 1 + n by omega,hz,Nat.mul_zero,Nat.add_zero]
 refine ⟨put_limbs h.lim hrs,h.qlim.set _ _ hqB,?_,by rw [hd]; exact hlt⟩
 have h1:=nat_split ul j oM
 have h2:=nat_split (put ul j rs) j (by rw [put_length oM]; omega)
 rw [hd,put_take oM] at h2
 rw [<-h.seg_eq hV hl,heq] at h1
 have h3:=nat_drop_get (qs.set j q) j (by simpa using hq)
 rw [drop_set_succ,List.getD_eq_getElem?_getD,List.getElem?_set_self hq] at h3
 simp only [Option.getD_some] at h3
 rw [h3,h2,h.eq,h1,Nat.pow_succ]
 exact div_arith _ _ _ _ _ _ _
def RetDiv (w : World) (a b : Nat) (e : Ending) (w' : World) : Prop:=
 ∃qo ql qc qs ro rl rc rs,e = .returned (.tuple #[.slice qo ql qc,.slice ro rl rc])/\qs.length = ql/\ql<=qc/\qc<=9223372036854775807/\LimbsAt w' qo qs ∧
  rs.length = rl/\rl<=rc/\rc<=9223372036854775807/\LimbsAt w' ro rs/\a = nat qs * b + nat rs/\nat rs < b/\Below w.heap.size w w'
section
variable (ao1 ao2 : Option Addr) (n1 cap1 n2 cap2 : Nat) (xs ys : List Nat) (w : World) (hn1 : xs.length = n1) (hn2 : ys.length = n2) (hl1 : n1<=cap1) (hl2 : n2<=cap2)
  (hc1 : cap1<=9223372036854775807) (hc2 : cap2<=9223372036854775807) (hb1 : n1<=2 * LIM) (hb2 : n2<=2 * LIM) (hx1 : LimbsAt w ao1 xs) (hx2 : LimbsAt w ao2 ys) (hN1 : Normal xs) (hN2 : Normal ys) (hy : 0 < nat ys)
include hn1 hn2 hl1 hl2 hc1 hc2 hb1 hb2 hx1 hx2 hN1 hN2 hy
end

def RetDM (w : World) (z1 z2 : Int) (e : Ending) (w' : World) : Prop:=
 ∃v1 v2,e = .returned (.tuple #[v1,v2,.int .i64 0])/\IntV w' v1 (z1 / z2)/\IntV w' v2 (z1 % z2)/\Below w.heap.size w w'
def dmQ (neg : Bool) (a b : Nat) : Nat:=if neg = true/\0 < a % b then a / b + 1 else a / b
def dmR (neg : Bool) (a b : Nat) : Nat:=if neg = true/\0 < a % b then b - a % b else a % b
theorem dm_spec (n1 n2 : Bool) (a b : Nat) (hb : 0 < b) : sgn n1 a / sgn n2 b = sgn (n1 != n2) (dmQ n1 a b)/\sgn n1 a % sgn n2 b = (dmR n1 a b : Nat):=by
 have hm:=Nat.mod_lt a hb
 have he:=Nat.div_add_mod a b
 have key : ∀(z : Int) (q r : Int),z = q * b + r->0<=r->r < b->z / (b : Int) = q/\z % (b : Int) = r:=fun z q r h1 h2 h3=>
  (Int.ediv_emod_unique oM).2 ⟨by rw [h1,Int.mul_comm]; omega,h2,h3⟩
 have hpos : sgn n1 a / (b : Int) = sgn n1 (dmQ n1 a b)/\sgn n1 a % (b : Int) = (dmR n1 a b : Nat):=by
  cases n1 with
  | false=>
   have e1 : dmQ false a b = a / b:=by unfold dmQ; rw [if_neg sI]
   have e2 : dmR false a b = a % b:=by unfold dmR; rw [if_neg sI]
   rw [e1,e2]
   simp
  | true=>
   by_cases h0 : 0 < a % b
   ·have e1 : dmQ true a b = a / b + 1:=by unfold dmQ; rw [if_pos ⟨rfl,h0⟩]
    have e2 : dmR true a b = b - a % b:=by unfold dmR; rw [if_pos ⟨rfl,h0⟩]
    rw [e1,e2]
    refine key _ _ _ ?_ oM oM
    simp only [sgn_true]
    rw [Int.neg_mul,Int.natCast_add,Int.add_mul,Nat.mul_comm] at *
    have : ((a / b * b : Nat) : Int) + ((a % b : Nat) : Int) = (a : Int):=by exact_mod_cast he
    rw [Int.natCast_mul] at this
    omega
   ·have e1 : dmQ true a b = a / b:=by unfold dmQ; rw [if_neg (by simp; omega)]
    have e2 : dmR true a b = a % b:=by unfold dmR; rw [if_neg (by simp; omega)]
    rw [e1,e2]
    refine key _ _ _ ?_ oM oM
    simp only [sgn_true]
    rw [Int.neg_mul,Nat.mul_comm] at *
    have : ((a / b * b : Nat) : Int) + ((a % b : Nat) : Int) = (a : Int):=by exact_mod_cast he
    rw [Int.natCast_mul] at this
    omega
 cases n2 with
 | false=>simp only [sgn_false,Bool.bne_false]; exact hpos
 | true=>
  simp only [sgn_true,Int.ediv_neg,Int.emod_neg,Bool.bne_true]
  rw [hpos.1,hpos.2,sgn_not]
  exact ⟨rfl,rfl⟩
theorem run_loadInt {W : World} {r : Nat} {v : Array Value} (hb : Blk W r 66 v) (h2 : v.size = 2) : (loadVar 66 ⟨r,0,none⟩).run Tryz.prog W = .ok (.agg v) W:=
 run_loadVar_row W r _ _ v _ _ hb Tryz.underlying66 rfl (by rw [Tryz.sizeI,h2])
theorem results_cct {fn : Func} {p1 p2 u : Tmp} (h : fn.results = #[.cell p1 66,.cell p2 66,.tmp u]) (tmps : Array Value) {W : World} {r1 r2 : Nat} {v1 v2 : Array Value}
  (hp1 : tmps.getD p1 undef = .pointer (some ⟨r1,0,none⟩)) (hp2 : tmps.getD p2 undef = .pointer (some ⟨r2,0,none⟩)) (hb1 : Blk W r1 66 v1) (hb2 : Blk W r2 66 v2) (h1 : v1.size = 2) (h2 : v2.size = 2) :
  (results fn tmps).run Tryz.prog W = .ok (.tuple #[.agg v1,.agg v2,tmps.getD u undef]) W:=by
 have hp1' : tmps[p1]?.getD undef = .pointer (some ⟨r1,0,none⟩):=by simpa using hp1
 have hp2' : tmps[p2]?.getD undef = .pointer (some ⟨r2,0,none⟩):=by simpa using hp2
 simp [results,h,hp1',hp2',asAddr,run_loadInt hb1 h1,run_loadInt hb2 h2]
set_option maxHeartbeats 1000000 in
theorem made_any (ao : Option Addr) (n cap : Nat) (xs : List Nat) (neg : Bool) (w : World) (hn : xs.length = n) (hl : n<=cap) (hcap : cap<=9223372036854775807) (hb : n<=8 * LIM) (hx : LimbsAt w ao xs) :
  Calls Tryz.prog 70 #[.slice ao n cap,.bool neg] w (RetInt w (sgn neg (nat xs))):=by
 have HN:=Lib.hid hn
 have hlen : xs.length<=n:=by omega
 have hlen' : n<=xs.length:=by omega
 rw [LIM_eq] at hb
 have hnt : Hid (∀k,topLen xs k = topLen xs n->topLen xs n = k->(Normal (xs.take k)/\nat (xs.take k) = nat xs)):=fun k _ h=>by
  have h1:=trimmed_nat xs
  have h2:=trimmed_normal xs
  unfold trimmed at h1 h2
  rw [hn,h] at h1 h2
  exact ⟨h2,h1⟩
 clear hn
 go_enter Tryz.func70,Tryz.ntmps70
 go_upto_region 1 with (fail)
 refine wp_world ?_
 intro W0 hW0
 obtain ⟨hB0,br,hs0⟩:=world1 hW0
 have hx0:=hx.ext (lx hB0)
 clear hW0
 go_wp2
 go_loop [5] (fun v=>∃k : Nat,k<=n/\v = .int .i64 k/\Hid (topLen xs k = topLen xs n)) (fun v=>(intOf v).toNat)
 case atStart=>exact ⟨n,Nat.le_refl _,rfl,rfl⟩
 case round=>
  obtain ⟨k,hk,rfl,ht⟩:=hrel
  have hkl : Hid ((xs.take k).length = k):=by show _ = _; rw [List.length_take]; omega
  cases k with
  | zero=>
   have hfin : Hid (Normal (xs.take 0)/\nat (xs.take 0) = nat xs):=hnt.out 0 ht.out ht.out.symm
   have E0 : Hid (nat xs = 0):=hfin.out.2.symm
   cases neg with
   | false=>
    go_wp2_with (at_builtin; refine appU rfl _ _ rfl W0.heap.size (.slice (some ⟨W0.heap.size,0,none⟩) 0 0) [] rfl (OwnL.empty W0 _ (Nat.le_refl _)) _ 0 cap ([] : List Nat) rfl (LimbsAt.nil _ _) rfl (by first | (simp; done) | (simp; omega)) sI ?_; intro v' w' hown hgr; have hBw : Below W0.heap.size W0 w':=((Below.refl _ _).alloc (Nat.le_refl _) _).grown hgr sI (fun g hg=>by simp [Value.ownBlock] at hg; omega); have br2:=br.below hBw; obtain ⟨e1,e2,e3,e4⟩:=br2.two; obtain ⟨ao',cap',hv,h1,h2,h3⟩:=hown.at_; rw [List.nil_append,show ([] : List Nat).length = 0 from rfl] at hv h1; subst hv)
    refine bodyPost_int rfl rfl rfl (br2.put2 _ _) ?_ (bset (bset (nx hB0 hBw) oM 0 _) oM 1 _)
    refine IntV.ext ?_ (br2.lext2 dE _ _)
    exact ⟨false,ao',0,cap',[],rfl,rfl,h1,h2,by simpa using h3,Normal.nil,by rw [E0.out]; rfl,by simp⟩
   | true=>
    go_wp2_with (at_builtin; refine appU rfl _ _ rfl W0.heap.size (.slice (some ⟨W0.heap.size,0,none⟩) 0 0) [] rfl (OwnL.empty W0 _ (Nat.le_refl _)) _ 0 cap ([] : List Nat) rfl (LimbsAt.nil _ _) rfl (by first | (simp; done) | (simp; omega)) sI ?_; intro v' w' hown hgr; have hBw : Below W0.heap.size W0 w':=((Below.refl _ _).alloc (Nat.le_refl _) _).grown hgr sI (fun g hg=>by simp [Value.ownBlock] at hg; omega); have br2:=br.below hBw; obtain ⟨e1,e2,e3,e4⟩:=br2.two; obtain ⟨ao',cap',hv,h1,h2,h3⟩:=hown.at_; rw [List.nil_append,show ([] : List Nat).length = 0 from rfl] at hv h1; subst hv)
    refine bodyPost_int rfl rfl rfl (br2.put2 _ _) ?_ (bset (bset (nx hB0 hBw) oM 0 _) oM 1 _)
    refine IntV.ext ?_ (br2.lext2 dE _ _)
    exact ⟨false,ao',0,cap',[],rfl,rfl,h1,h2,by simpa using h3,Normal.nil,by rw [E0.out]; rfl,by simp⟩
  | succ k=>
   obtain ⟨b,off,x,rfl,hbw,hx32,HX,hck⟩:=hx0.limb (k:=k) oM
   by_cases hz : x = 0
   ·have ht' : Hid (topLen xs k = topLen xs n):=by
     have:=ht.out; rw [show topLen xs (k + 1) = if xs.getD k 0 = 0 then topLen xs k else k + 1 from rfl,if_pos (HX.out.trans hz)] at this; exact this
    subst hz
    clear ht
    go_wp2
    go_round
    case rel=>exact ⟨k,by omega,by go_num,ht'⟩
    case measure=>simp [intOf]
   ·have ht' : Hid (topLen xs n = k + 1):=by
     have:=ht.out; rw [show topLen xs (k + 1) = if xs.getD k 0 = 0 then topLen xs k else k + 1 from rfl,if_neg (by rw [HX.out]; exact hz)] at this; exact this.symm
    have hfin : Hid (Normal (xs.take (k + 1))/\nat (xs.take (k + 1)) = nat xs):=hnt.out (k + 1) ht.out ht'.out
    have hzz : ((x : Int) == 0) = false:=by simpa using hz
    clear hz ht
    cases neg with
    | false=>
     go_wp2_with (at_builtin; refine appU rfl _ _ rfl W0.heap.size (.slice (some ⟨W0.heap.size,0,none⟩) 0 0) [] rfl (OwnL.empty W0 _ (Nat.le_refl _)) _ (k + 1) cap (xs.take (k + 1)) rfl ((hx0.take (k + 1)).ext (lx ((Below.refl _ _).alloc (Nat.le_refl _) _))) hkl.out (by first | (simp; done) | (simp; omega)) sI ?_; intro v' w' hown hgr; have hBw : Below W0.heap.size W0 w':=((Below.refl _ _).alloc (Nat.le_refl _) _).grown hgr sI (fun g hg=>by simp [Value.ownBlock] at hg; omega); have br2:=br.below hBw; obtain ⟨e1,e2,e3,e4⟩:=br2.two; obtain ⟨ao',cap',hv,h1,h2,h3⟩:=hown.at_; rw [List.nil_append,show (xs.take (k + 1)).length = (k + 1) from hkl.out] at hv h1; subst hv)
     refine bodyPost_int rfl rfl rfl (br2.put2 _ _) ?_ (bset (bset (nx hB0 hBw) oM 0 _) oM 1 _)
     refine IntV.ext ?_ (br2.lext2 dE _ _)
     exact ⟨false,ao',k + 1,cap',xs.take (k + 1),rfl,hkl.out,h1,h2,by simpa using h3,hfin.out.1,by rw [hfin.out.2]; rfl,by simp⟩
    | true=>
     go_wp2_with (at_builtin; refine appU rfl _ _ rfl W0.heap.size (.slice (some ⟨W0.heap.size,0,none⟩) 0 0) [] rfl (OwnL.empty W0 _ (Nat.le_refl _)) _ (k + 1) cap (xs.take (k + 1)) rfl ((hx0.take (k + 1)).ext (lx ((Below.refl _ _).alloc (Nat.le_refl _) _))) hkl.out (by first | (simp; done) | (simp; omega)) sI ?_; intro v' w' hown hgr; have hBw : Below W0.heap.size W0 w':=((Below.refl _ _).alloc (Nat.le_refl _) _).grown hgr sI (fun g hg=>by simp [Value.ownBlock] at hg; omega); have br2:=br.below hBw; obtain ⟨e1,e2,e3,e4⟩:=br2.two; obtain ⟨ao',cap',hv,h1,h2,h3⟩:=hown.at_; rw [List.nil_append,show (xs.take (k + 1)).length = (k + 1) from hkl.out] at hv h1; subst hv)
     refine bodyPost_int rfl rfl rfl (br2.put2 _ _) ?_ (bset (bset (nx hB0 hBw) oM 0 _) oM 1 _)
     refine IntV.ext ?_ (br2.lext2 dE _ _)
     exact ⟨true,ao',k + 1,cap',xs.take (k + 1),rfl,hkl.out,h1,h2,by simpa using h3,hfin.out.1,by rw [hfin.out.2]; rfl,by simp⟩
theorem wp_calls_world {P : Program} {f : FuncId} {args : Array Value} {w : World} {R : Ending->World->Prop} (h : ∀W0,Hid (W0 = w)->Calls P f args W0 R) : Calls P f args w R:=h w rfl
theorem limbs2 {w : World} {g a b : Nat} {m k : Int} (h : Blk w g tU #[.int .u32 m,.int .u32 k]) (ha : a < 4294967296) (hb : b < 4294967296) (hm : m = a) (hk : k = b) : LimbsAt w (some ⟨g,0,none⟩) [a,b]:=by
 subst hm; subst hk
 exact LBlk.at_ (xs:=[a,b]) h (fun x hx=>by simp at hx; unfold B32; omega)
set_option maxHeartbeats 1000000 in
theorem r1of_any (n : Int) (w : World) (h1 : -9223372036854775808<=n) (h2 : n<=9223372036854775807) :
  Calls Tryz.prog 26 #[.int .i64 n] w (RetInt w n):=by
 obtain ⟨m,hm⟩ : ∃m,n.natAbs = m:=⟨_,rfl⟩
 have hm64 : m<=9223372036854775808:=by omega
 have hlen : ([m % 4294967296,m / 4294967296] : List Nat).length = 2:=rfl
 have hnat : nat [m % 4294967296,m / 4294967296] = m:=by simp [nat_cons,B32_eq]; omega
 have hz : Hid (sgn (decide (n < 0)) (nat [m % 4294967296,m / 4294967296]) = n):=by show _ = _; rw [hnat]; by_cases h : n < 0 <;> simp [h,sgn] <;> omega
 clear hnat hlen
 by_cases hn : n < 0
 ·have e : IntKind.u64.wrap (-IntKind.u64.wrap n) = ((m : Nat) : Int):=by simp only [IntKind.wrap_u64]; omega
  have hz' : Hid (sgn true (nat [m % 4294967296,m / 4294967296]) = n):=by have:=hz.out; rw [show decide (n < 0) = true by simpa using hn] at this; exact this
  clear hm
  go_enter Tryz.func26,Tryz.ntmps26
  go_wp2_with fail
  refine wp_calls_world ?_
  intro W1 hW1
  obtain ⟨hB1,br1,bl1,hs1⟩:=world2 hW1
  refine (made_any _ 2 2 [m % 4294967296,m / 4294967296] true _ rfl (Nat.le_refl _) oM (by rw [LIM_eq]; omega) (limbs2 bl1 oM oM (by simp [IntKind.wrap_u32]) (by simp [IntKind.wrap_u32]))).mono ?_
  rintro e2 w2 ⟨v,rfl,hv,hb2⟩
  have br2:=br1.below hb2
  obtain ⟨k1,k2,k3,k4⟩:=br2.two
  rw [hz'.out] at hv
  obtain ⟨vn,va,vl,vc,vx,rfl,hv2⟩:=hv
  go_wp2_with fail
  refine bodyPost_int rfl rfl rfl (br2.put2 _ _) ?_ (bset (bset (nx hB1 hb2) oM 0 _) oM 1 _)
  exact IntV.ext ⟨vn,va,vl,vc,vx,rfl,hv2⟩ (br2.lext2 dE _ _)
 ·have e : IntKind.u64.wrap n = ((m : Nat) : Int):=by simp only [IntKind.wrap_u64]; omega
  have hz' : Hid (sgn false (nat [m % 4294967296,m / 4294967296]) = n):=by have:=hz.out; rw [show decide (n < 0) = false by simpa using hn] at this; exact this
  clear hm
  go_enter Tryz.func26,Tryz.ntmps26
  go_wp2_with fail
  refine wp_calls_world ?_
  intro W1 hW1
  obtain ⟨hB1,br1,bl1,hs1⟩:=world2 hW1
  refine (made_any _ 2 2 [m % 4294967296,m / 4294967296] false _ rfl (Nat.le_refl _) oM (by rw [LIM_eq]; omega) (limbs2 bl1 oM oM (by simp [IntKind.wrap_u32]) (by simp [IntKind.wrap_u32]))).mono ?_
  rintro e2 w2 ⟨v,rfl,hv,hb2⟩
  have br2:=br1.below hb2
  obtain ⟨k1,k2,k3,k4⟩:=br2.two
  rw [hz'.out] at hv
  obtain ⟨vn,va,vl,vc,vx,rfl,hv2⟩:=hv
  go_wp2_with fail
  refine bodyPost_int rfl rfl rfl (br2.put2 _ _) ?_ (bset (bset (nx hB1 hb2) oM 0 _) oM 1 _)
  exact IntV.ext ⟨vn,va,vl,vc,vx,rfl,hv2⟩ (br2.lext2 dE _ _)
theorem IntV.len {w : World} {v : Value} {z : Int} (h : IntV w v z) (s : Sm z) :
  ∃neg ao n cap xs,v = .agg #[.bool neg,.slice ao n cap]/\xs.length = n/\n<=cap/\cap<=9223372036854775807/\LimbsAt w ao xs/\Normal xs/\z = sgn neg (nat xs)/\(n = 0->neg = false)/\n<=LIM:=by
 obtain ⟨neg,ao,n,cap,xs,h1,h2,h3,h4,h5,h6,h7,h8⟩:=h
 exact ⟨neg,ao,n,cap,xs,h1,h2,h3,h4,h5,h6,h7,h8,by rw [<-h2]; exact Sm.len (neg:=neg) (by rw [<-h7]; exact s) h6⟩
set_option maxHeartbeats 400000 in
theorem r1sign_any (v : Value) (z : Int) (w : World) (h : IntV w v z) :
  Calls Tryz.prog 74 #[v] w fun e w'=>e = .returned (.int .i64 (cmpI z 0))/\Below w.heap.size w w':=by
 obtain ⟨neg,ao,n,cap,xs,rfl,hn,hl,hcap,hx,hN,hz,_⟩:=h
 by_cases h0 : n = 0
 ·have E : Hid (cmpI z 0 = 0):=by
   have : xs = []:=List.eq_nil_of_length_eq_zero oM
   subst this
   exact cmpI_eq (by rw [hz]; simp [sgn_zero])
  clear hz hn
  subst h0
  go_enter Tryz.func74,Tryz.ntmps74
  go_wp2
  go_ret
  exact ⟨by rw [E.out]; rfl,(Below.refl _ _).alloc (Nat.le_refl _) _⟩
 ·have hp : 0 < nat xs:=nat_pos hN (by rintro rfl; simp at hn; omega)
  have h0' : ((n : Int) == 0) = false:=by simpa using h0
  cases neg with
  | true=>
   have E : Hid (cmpI z 0 = -1):=cmpI_lt (by rw [hz]; simp; omega)
   clear hz hn
   go_enter Tryz.func74,Tryz.ntmps74
   go_wp2
   go_ret
   exact ⟨by rw [E.out]; rfl,(Below.refl _ _).alloc (Nat.le_refl _) _⟩
  | false=>
   have E : Hid (cmpI z 0 = 1):=cmpI_gt (by rw [hz]; simp; omega)
   clear hz hn
   go_enter Tryz.func74,Tryz.ntmps74
   go_wp2
   go_ret
   exact ⟨by rw [E.out]; rfl,(Below.refl _ _).alloc (Nat.le_refl _) _⟩
set_option maxHeartbeats 1000000 in
theorem r1valid_any (v1 : Value) (z : Int) (w : World) (h1 : IntV w v1 z) : Calls Tryz.prog 73 #[v1] w fun e w'=>e = .returned (.bool true)/\Below w.heap.size w w':=by
 obtain ⟨neg,ao,n,cap,xs,rfl,hn,hl,hc,hx,hN,hz,hpos⟩:=h1
 have HN:=Lib.hid hn
 clear hz
 cases n with
 | zero=>
  obtain rfl:=hpos rfl
  clear hn
  go_enter Tryz.func73,Tryz.ntmps73
  go_wp2
  go_ret
  exact ⟨rfl,(Below.refl _ _).alloc (Nat.le_refl _) _⟩
 | succ n=>
  obtain ⟨b,off,x,rfl,hbw,hx32,HX,hck⟩:=hx.limb (k:=n) oM
  have hx0 : ((x : Int) != 0) = true:=by
   have:=hN n hn
   rw [HX.out] at this
   simpa using this
  clear hn hpos
  go_enter Tryz.func73,Tryz.ntmps73
  go_wp2
  go_ret
  exact ⟨rfl,(Below.refl _ _).alloc (Nat.le_refl _) _⟩
set_option maxHeartbeats 1000000 in
theorem r1neg_any (v1 : Value) (z : Int) (w : World) (h1 : IntW w v1 z) (s1 : Sm z) : Calls Tryz.prog 140 #[v1] w (RetInt w (-z)):=by
 obtain ⟨neg,ao,n,cap,xs,rfl,hn,hl,hc,hx,hN,hz,hq⟩:=h1.len s1
 have HN:=Lib.hid hn
 have HZ:=Lib.hid hz
 clear hn hz s1 h1
 have hq' : n<=8 * LIM:=by omega
 go_enter Tryz.func140,Tryz.ntmps140
 go_upto_region 1 with (fail)
 refine wp_world ?_
 intro W0 hW0
 obtain ⟨hB0,bx1,br,hs0⟩:=world2 hW0
 obtain ⟨c1,c2,c3,c4⟩:=bx1.two
 obtain ⟨d1,d2,d3,d4⟩:=br.two
 go_wp2_with fail
 refine (made_any ao n cap xs (!neg) _ HN.out hl hc hq' (hx.ext (lx hB0))).mono ?_
 rintro e w2 ⟨v,rfl,hv,hb2⟩
 have br2:=br.below hb2
 obtain ⟨e1,e2,e3,e4⟩:=br2.two
 obtain ⟨vn,va,vl,vc,vx,rfl,hv2⟩:=hv
 go_wp2_with fail
 refine bodyPost_int rfl rfl rfl (br2.put2 _ _) ?_ (bset (bset (nx hB0 hb2) oM 0 _) oM 1 _)
 refine IntV.ext ?_ (br2.lext2 dE _ _)
 rw [HZ.out,<-sgn_not]
 exact ⟨vn,va,vl,vc,vx,rfl,hv2⟩
set_option maxHeartbeats 1000000 in
theorem less_any (ao1 ao2 : Option Addr) (n1 cap1 n2 cap2 : Nat) (xs ys : List Nat) (w : World) (hn1 : xs.length = n1) (hn2 : ys.length = n2) (hl1 : n1<=cap1) (hl2 : n2<=cap2)
  (hc1 : cap1<=9223372036854775807) (hc2 : cap2<=9223372036854775807) (hx1 : LimbsAt w ao1 xs) (hx2 : LimbsAt w ao2 ys) (hN1 : Normal xs) (hN2 : Normal ys) :
  Calls Tryz.prog 105 #[.slice ao1 n1 cap1,.slice ao2 n2 cap2] w fun e w'=>e = .returned (.bool (decide (nat xs < nat ys)))/\∃q,w' = w.drewN q:=by
 have HN1:=Lib.hid hn1
 have HN2:=Lib.hid hn2
 by_cases hne : n1 = n2
 ·subst hne
  have hlen1 : xs.length<=n1:=by omega
  have hlen1' : n1<=xs.length:=by omega
  have hlen2 : ys.length<=n1:=by omega
  have hlen2' : n1<=ys.length:=by omega
  clear hn1 hn2
  go_enter Tryz.func105,Tryz.ntmps105
  go_wp2
  go_loopw [5] (fun i wr=>∃k q : Nat,k<=n1/\i = .int .i64 ((k : Int) - 1)/\Hid (xs.drop k = ys.drop k)/\Hid (wr = w.drewN q)) (fun i _=>(intOf i + 1).toNat)
  case atStart=>exact ⟨n1,0,Nat.le_refl _,rfl,by show _ = _; rw [List.drop_eq_nil_of_le oM,List.drop_eq_nil_of_le oM],rfl⟩
  case round=>
   obtain ⟨k,q,hk,rfl,HD,HW⟩:=hrel
   cases k with
   | zero=>
    have E : Hid (decide (nat xs < nat ys) = false):=by
     have : xs = ys:=by simpa using HD.out
     subst this; show _ = _; simp
    go_wp2
    go_ret
    exact ⟨by rw [E.out]; rfl,_,HW.out⟩
   | succ k=>
    obtain ⟨b,off,x,rfl,hbw,hx32,HX,hck⟩:=hx1.limb (k:=k) oM
    obtain ⟨b2,off2,y,rfl,hbw2,hy32,HY,hcy⟩:=hx2.limb (k:=k) oM
    have hck' : wr.cell? ⟨b,off + k,none⟩ = some (.int .u32 (x : Nat)):=by rw [HW.out]; exact hck
    have hcy' : wr.cell? ⟨b2,off2 + k,none⟩ = some (.int .u32 (y : Nat)):=by rw [HW.out]; exact hcy
    have ek : IntKind.i64.wrap ((k : Int) + 1 - 1) = k:=by rw [IntWalk.i64_in _ oM]; omega
    clear hck hcy
    by_cases hxy : x = y
    ·subst hxy
     have HD' : Hid (xs.drop k = ys.drop k):=by
      show _ = _
      rw [List.drop_eq_getElem_cons (l:=xs) (i:=k) oM,List.drop_eq_getElem_cons (l:=ys) (i:=k) oM,HD.out]
      have h1:=HX.out; have h2:=HY.out
      rw [List.getD_eq_getElem?_getD,List.getElem?_eq_getElem oM] at h1 h2
      simp at h1 h2
      rw [h1,h2]
     have e0 : ((x : Int) != x) = false:=by simp
     clear HD HX HY
     go_wp2
     go_quiet (fail)
     go_wp2
     go_roundw
     case rel=>exact ⟨k,_,by omega,by go_num,HD',by show _ = _; rw [HW.out,World.drewN_drewN]⟩
     case measure=>simp [intOf]
    ·have e0 : ((x : Int) != y) = true:=by simp; omega
     have E : Hid (decide (nat xs < nat ys) = decide (x < y)):=by
      show _ = _
      rcases Nat.lt_or_gt_of_ne hxy with h | h
      ·have:=cmp_lt hx1.1 oM oM HD.out HX.out HY.out h
       simp [this,h]
      ·have:=cmp_lt hx2.1 oM oM HD.out.symm HY.out HX.out h
       simp; constructor <;> intro <;> omega
     by_cases hlt : x < y
     ·have e1 : decide ((x : Int) < (y : Int)) = true:=by simp; omega
      have e2 : Hid (decide (nat xs < nat ys) = true):=by show _ = _; rw [E.out]; simp [hlt]
      go_wp2
      go_quiet (fail)
      go_wp2
      go_quiet (fail)
      go_wp2
      go_ret
      exact ⟨by rw [e2.out]; rfl,_,by rw [HW.out]; simp only [World.drewN_drewN]; rfl⟩
     ·have e1 : decide ((x : Int) < (y : Int)) = false:=by simp; omega
      have e2 : Hid (decide (nat xs < nat ys) = false):=by show _ = _; rw [E.out]; simp [hlt]
      go_wp2
      go_quiet (fail)
      go_wp2
      go_quiet (fail)
      go_wp2
      go_ret
      exact ⟨by rw [e2.out]; rfl,_,by rw [HW.out]; simp only [World.drewN_drewN]; rfl⟩
 ·have e0 : ((n1 : Int) != n2) = true:=by simp; omega
  rcases Nat.lt_or_gt_of_ne hne with h | h
  ·have e2 : Hid (decide (nat xs < nat ys) = true):=by
    have:=cmp_len hx1.1 hN2 oM; show _ = _; simp [this]
   clear hn1 hn2
   go_enter Tryz.func105,Tryz.ntmps105
   go_wp2
   go_ret
   exact ⟨by rw [e2.out]; first | rfl | (show Ending.returned (.bool (decide (n1 < n2))) = _; first | rw [decide_eq_true h] | rw [decide_eq_false oM]),0,rfl⟩
  ·have e2 : Hid (decide (nat xs < nat ys) = false):=by
    have:=cmp_len hx2.1 hN1 oM; show _ = _; simp; omega
   clear hn1 hn2
   go_enter Tryz.func105,Tryz.ntmps105
   go_wp2
   go_ret
   exact ⟨by rw [e2.out]; first | rfl | (show Ending.returned (.bool (decide (n1 < n2))) = _; first | rw [decide_eq_true h] | rw [decide_eq_false oM]),0,rfl⟩
def RetLimbsB (w : World) (n : Nat) (e : Ending) (w' : World) : Prop:=
 ∃ao len cap xs,e = .returned (.slice ao len cap)/\xs.length = len/\len<=cap/\cap<=9223372036854775807/\LimbsAt w' ao xs/\nat xs = n/\Below w.heap.size w w'/\len<=8 * LIM
theorem plus_snoc {xs ys zs : List Nat} {k d x y : Nat} (hl : zs.length = k) (h : nat zs + d * B32 ^ k = nat (xs.take k) + nat (ys.take k)) (hx : xs.getD k 0 = x) (hy : ys.getD k 0 = y) :
  nat (zs ++ [(d + x + y) % 4294967296]) + (d + x + y) / 4294967296 * B32 ^ (k + 1) = nat (xs.take (k + 1)) + nat (ys.take (k + 1)):=by
 have h1:=plus_step (xs:=xs) (ys:=ys) (zs:=zs ++ [0]) (k:=k) (d:=d) (x:=x) (y:=y) (by rw [List.take_append_of_le_length oM,nat_take_all zs oM]; exact h) (by simp; omega) hx hy
 have h2 : (zs ++ [0]).set k ((d + x + y) % 4294967296) = zs ++ [(d + x + y) % 4294967296]:=by
  rw [List.set_append_right _ _ oM,hl,Nat.sub_self]; rfl
 rw [h2,nat_take_all _ (by simp; omega)] at h1
 exact h1
theorem getD_past {xs : List Nat} {k : Nat} (h : xs.length<=k) : xs.getD k 0 = 0:=by rw [List.getD_eq_getElem?_getD,List.getElem?_eq_none h]; rfl
theorem OwnL.base_le {w : World} {base : Nat} {v : Value} {xs : List Nat} (h : OwnL w base v xs) : ∀g,v.ownBlock = some g->base<=g:=fun g hg=>(h.2.lt g hg).1
set_option maxHeartbeats 2000000 in
set_option maxRecDepth 20000 in
theorem r1plus_any (ao1 ao2 : Option Addr) (n1 cap1 n2 cap2 : Nat) (xs ys : List Nat) (w : World) (hn1 : xs.length = n1) (hn2 : ys.length = n2)
  (hb1 : n1<=4 * LIM) (hb2 : n2<=4 * LIM) (hx1 : LimbsAt w ao1 xs) (hx2 : LimbsAt w ao2 ys) :
  Calls Tryz.prog 121 #[.slice ao1 n1 cap1,.slice ao2 n2 cap2] w (RetLimbsB w (nat xs + nat ys)):=by
 have HN1:=Lib.hid hn1
 have HN2:=Lib.hid hn2
 have hlen1 : xs.length<=n1:=by omega
 have hlen1' : n1<=xs.length:=by omega
 have hlen2 : ys.length<=n2:=by omega
 have hlen2' : n2<=ys.length:=by omega
 clear hn1 hn2
 rw [LIM_eq] at hb1 hb2
 obtain ⟨mx,hmx1,hmx2,hmx3⟩ : ∃m,n1<=m/\n2<=m/\m<=4 * 1099511627776:=⟨max n1 n2,by omega,by omega,by omega⟩
 go_enter Tryz.func121,Tryz.ntmps121
 go_wp2
 go_loopw [5,6,7] (fun v c i wr=>∃(k d : Nat) (zs : List Nat),k<=mx + 1/\i = .int .i64 k/\c = .int .u64 d/\d<=1/\k + d<=mx + 1/\zs.length<=mx + 1/\OwnL wr w.heap.size v zs/\Below w.heap.size w wr ∧
   Hid (zs.length = k/\nat zs + d * B32 ^ k = nat (xs.take k) + nat (ys.take k))) (fun _ _ i _=>mx + 1 - (intOf i).toNat)
 case atStart=>exact ⟨0,0,[],by omega,rfl,rfl,by omega,by omega,by simp,OwnL.empty w _ (Nat.le_refl _),(Below.refl _ _).alloc (Nat.le_refl _) _,⟨rfl,by simp⟩⟩
 case round=>
  obtain ⟨k,d,zs,hk,rfl,rfl,hd,hkd,hzl,hown,hbel,HH⟩:=hrel
  have hzk : zs.length<=k:=Nat.le_of_eq HH.out.1
  by_cases h1 : k < n1
  ·obtain ⟨b,off,x,rfl,hbw,hx32,HX,hck⟩:=hx1.limb (k:=k) oM
   have hck':=(hbel.cell (p:=⟨b,off + k,none⟩) hbw).trans hck
   clear hck
   by_cases h2 : k < n2
   ·obtain ⟨b2,off2,y,rfl,hbw2,hy32,HY,hcy⟩:=hx2.limb (k:=k) oM
    have hcy':=(hbel.cell (p:=⟨b2,off2 + k,none⟩) hbw2).trans hcy
    clear hcy
    go_wp2_with (at_builtin; refine appU rfl _ _ rfl w.heap.size u5 zs rfl (hown.alloc _) _ 1 _ [(d + x + y) % 4294967296] rfl (LimbsAt.one _ ((d + x + y) % 4294967296) (Nat.mod_lt _ dE) _ (by first | rfl | omega | simp)) rfl oM (by have:=hbel.size; simp; omega) ?_; intro v' w' hown' hgr'; have hbel' : Below w.heap.size w w':=(hbel.alloc hbel.size _).grown hgr' (by have:=hbel.size; simp; omega) (fun g hg=>hown.base_le g hg))
    go_roundw
    case rel=>exact ⟨k + 1,(d + x + y) / 4294967296,zs ++ [(d + x + y) % 4294967296],by omega,by go_num,by go_num,by omega,by omega,by simp; omega,hown',hbel',⟨by simp [HH.out.1],plus_snoc HH.out.1 HH.out.2 HX.out HY.out⟩⟩
    case measure=>simp [intOf]; omega
   ·have HY : Hid (ys.getD k 0 = 0):=getD_past oM
    have hs0 : d + x + 0 = d + x:=rfl
    go_wp2_with (at_builtin; refine appU rfl _ _ rfl w.heap.size u5 zs rfl (hown.alloc _) _ 1 _ [(d + x + 0) % 4294967296] rfl (LimbsAt.one _ ((d + x + 0) % 4294967296) (Nat.mod_lt _ dE) _ (by first | rfl | omega | simp)) rfl oM (by have:=hbel.size; simp; omega) ?_; intro v' w' hown' hgr'; have hbel' : Below w.heap.size w w':=(hbel.alloc hbel.size _).grown hgr' (by have:=hbel.size; simp; omega) (fun g hg=>hown.base_le g hg))
    go_roundw
    case rel=>exact ⟨k + 1,(d + x + 0) / 4294967296,zs ++ [(d + x + 0) % 4294967296],by omega,by go_num,by go_num,by omega,by omega,by simp; omega,hown',hbel',⟨by simp [HH.out.1],plus_snoc HH.out.1 HH.out.2 HX.out HY.out⟩⟩
    case measure=>simp [intOf]; omega
  ·have HX : Hid (xs.getD k 0 = 0):=getD_past oM
   by_cases h2 : k < n2
   ·obtain ⟨b2,off2,y,rfl,hbw2,hy32,HY,hcy⟩:=hx2.limb (k:=k) oM
    have hcy':=(hbel.cell (p:=⟨b2,off2 + k,none⟩) hbw2).trans hcy
    clear hcy
    go_wp2_with (at_builtin; refine appU rfl _ _ rfl w.heap.size u5 zs rfl (hown.alloc _) _ 1 _ [(d + 0 + y) % 4294967296] rfl (LimbsAt.one _ ((d + 0 + y) % 4294967296) (Nat.mod_lt _ dE) _ (by first | rfl | omega | simp)) rfl oM (by have:=hbel.size; simp; omega) ?_; intro v' w' hown' hgr'; have hbel' : Below w.heap.size w w':=(hbel.alloc hbel.size _).grown hgr' (by have:=hbel.size; simp; omega) (fun g hg=>hown.base_le g hg))
    go_roundw
    case rel=>exact ⟨k + 1,(d + 0 + y) / 4294967296,zs ++ [(d + 0 + y) % 4294967296],by omega,by go_num,by go_num,by omega,by omega,by simp; omega,hown',hbel',⟨by simp [HH.out.1],plus_snoc HH.out.1 HH.out.2 HX.out HY.out⟩⟩
    case measure=>simp [intOf]; omega
   ·have HY : Hid (ys.getD k 0 = 0):=getD_past oM
    by_cases h3 : 0 < d
    ·
     go_wp2_with (at_builtin; refine appU rfl _ _ rfl w.heap.size u5 zs rfl (hown.alloc _) _ 1 _ [(d + 0 + 0) % 4294967296] rfl (LimbsAt.one _ ((d + 0 + 0) % 4294967296) (Nat.mod_lt _ dE) _ (by first | rfl | omega | simp)) rfl oM (by have:=hbel.size; simp; omega) ?_; intro v' w' hown' hgr'; have hbel' : Below w.heap.size w w':=(hbel.alloc hbel.size _).grown hgr' (by have:=hbel.size; simp; omega) (fun g hg=>hown.base_le g hg))
     go_roundw
     case rel=>exact ⟨k + 1,(d + 0 + 0) / 4294967296,zs ++ [(d + 0 + 0) % 4294967296],by omega,by go_num,by go_num,by omega,by omega,by simp; omega,hown',hbel',⟨by simp [HH.out.1],plus_snoc HH.out.1 HH.out.2 HX.out HY.out⟩⟩
     case measure=>simp [intOf]; omega
    ·obtain rfl : 0 = d:=by omega
     go_wp2
     go_ret
     obtain ⟨ao',cap',hv,q1,q2,q3⟩:=hown.at_
     have h4:=HH.out.2
     rw [Nat.zero_mul,Nat.add_zero,nat_take_all xs oM,nat_take_all ys oM] at h4
     exact ⟨ao',_,cap',zs,by rw [hv]; rfl,rfl,q1,q2,q3,h4,hbel,by rw [LIM_eq]; omega⟩
theorem minus_snoc {xs ys zs : List Nat} {k d x y v e : Nat} (hl : zs.length = k) (h : nat zs + nat (ys.take k) = nat (xs.take k) + d * B32 ^ k) (hx : xs.getD k 0 = x) (hy : ys.getD k 0 = y) (hv : v + y + d = x + e * 4294967296) :
  nat (zs ++ [v]) + nat (ys.take (k + 1)) = nat (xs.take (k + 1)) + e * B32 ^ (k + 1):=by
 have h1:=minus_step (xs:=xs) (ys:=ys) (zs:=zs ++ [0]) (k:=k) (d:=d) (x:=x) (y:=y) (v:=v) (e:=e) (by rw [List.take_append_of_le_length oM,nat_take_all zs oM]; exact h) (by simp; omega) hx hy hv
 have h2 : (zs ++ [0]).set k v = zs ++ [v]:=by
  rw [List.set_append_right _ _ oM,hl,Nat.sub_self]; rfl
 rw [h2,nat_take_all _ (by simp; omega)] at h1
 exact h1
set_option maxHeartbeats 2000000 in
set_option maxRecDepth 20000 in
theorem r1minus_any (ao1 ao2 : Option Addr) (n1 cap1 n2 cap2 : Nat) (xs ys : List Nat) (w : World) (hn1 : xs.length = n1) (hn2 : ys.length = n2)
  (hb1 : n1<=4 * LIM) (hx1 : LimbsAt w ao1 xs) (hx2 : LimbsAt w ao2 ys) (hle : n2<=n1) (hval : nat ys<=nat xs) :
  Calls Tryz.prog 122 #[.slice ao1 n1 cap1,.slice ao2 n2 cap2] w (RetLimbsB w (nat xs - nat ys)):=by
 have HN1:=Lib.hid hn1
 have HN2:=Lib.hid hn2
 have HV:=Lib.hid hval
 have hlen1 : xs.length<=n1:=by omega
 have hlen1' : n1<=xs.length:=by omega
 have hlen2 : ys.length<=n2:=by omega
 have hlen2' : n2<=ys.length:=by omega
 clear hn1 hn2 hval
 rw [LIM_eq] at hb1
 go_enter Tryz.func122,Tryz.ntmps122
 go_wp2
 go_loopw [5,6,7] (fun v c i wr=>∃(k d : Nat) (zs : List Nat),k<=n1/\i = .int .i64 k/\c = .int .i64 d/\d<=1/\OwnL wr w.heap.size v zs/\Below w.heap.size w wr ∧
   Hid (zs.length = k/\nat zs + nat (ys.take k) = nat (xs.take k) + d * B32 ^ k)) (fun _ _ i _=>n1 - (intOf i).toNat)
 case atStart=>exact ⟨0,0,[],by omega,rfl,rfl,by omega,OwnL.empty w _ (Nat.le_refl _),(Below.refl _ _).alloc (Nat.le_refl _) _,⟨rfl,by simp⟩⟩
 case round=>
  obtain ⟨k,d,zs,hk,rfl,rfl,hd,hown,hbel,HH⟩:=hrel
  have hzk : zs.length<=k:=Nat.le_of_eq HH.out.1
  by_cases h1 : k < n1
  ·obtain ⟨b,off,x,rfl,hbw,hx32,HX,hck⟩:=hx1.limb (k:=k) oM
   have hck':=(hbel.cell (p:=⟨b,off + k,none⟩) hbw).trans hck
   clear hck
   by_cases h2 : k < n2
   ·obtain ⟨b2,off2,y,rfl,hbw2,hy32,HY,hcy⟩:=hx2.limb (k:=k) oM
    have hcy':=(hbel.cell (p:=⟨b2,off2 + k,none⟩) hbw2).trans hcy
    clear hcy
    by_cases hs : y + d<=x
    ·
     go_wp2_with (at_builtin; refine appU rfl _ _ rfl w.heap.size u5 zs rfl (hown.alloc _) _ 1 _ [(x - d - y)] rfl (LimbsAt.one _ ((x - d - y)) oM _ (by first | rfl | omega | (rw [IntKind.wrap_u32]; omega))) rfl oM (by have:=hbel.size; simp; omega) ?_; intro v' w' hown' hgr'; have hbel' : Below w.heap.size w w':=(hbel.alloc hbel.size _).grown hgr' (by have:=hbel.size; simp; omega) (fun g hg=>hown.base_le g hg))
     go_roundw
     case rel=>exact ⟨k + 1,0,zs ++ [(x - d - y)],by omega,by go_num,rfl,by omega,hown',hbel',⟨by simp [HH.out.1],minus_snoc HH.out.1 HH.out.2 HX.out HY.out oM⟩⟩
     case measure=>simp [intOf]; omega
    ·
     go_wp2_with (at_builtin; refine appU rfl _ _ rfl w.heap.size u5 zs rfl (hown.alloc _) _ 1 _ [(x + 4294967296 - d - y)] rfl (LimbsAt.one _ ((x + 4294967296 - d - y)) oM _ (by first | rfl | omega | (rw [IntKind.wrap_u32]; omega))) rfl oM (by have:=hbel.size; simp; omega) ?_; intro v' w' hown' hgr'; have hbel' : Below w.heap.size w w':=(hbel.alloc hbel.size _).grown hgr' (by have:=hbel.size; simp; omega) (fun g hg=>hown.base_le g hg))
     go_roundw
     case rel=>exact ⟨k + 1,1,zs ++ [(x + 4294967296 - d - y)],by omega,by go_num,rfl,by omega,hown',hbel',⟨by simp [HH.out.1],minus_snoc HH.out.1 HH.out.2 HX.out HY.out oM⟩⟩
     case measure=>simp [intOf]; omega
   ·have HY : Hid (ys.getD k 0 = 0):=getD_past oM
    by_cases hs : d<=x
    ·
     go_wp2_with (at_builtin; refine appU rfl _ _ rfl w.heap.size u5 zs rfl (hown.alloc _) _ 1 _ [(x - d)] rfl (LimbsAt.one _ ((x - d)) oM _ (by first | rfl | omega | (rw [IntKind.wrap_u32]; omega))) rfl oM (by have:=hbel.size; simp; omega) ?_; intro v' w' hown' hgr'; have hbel' : Below w.heap.size w w':=(hbel.alloc hbel.size _).grown hgr' (by have:=hbel.size; simp; omega) (fun g hg=>hown.base_le g hg))
     go_roundw
     case rel=>exact ⟨k + 1,0,zs ++ [(x - d)],by omega,by go_num,rfl,by omega,hown',hbel',⟨by simp [HH.out.1],minus_snoc HH.out.1 HH.out.2 HX.out HY.out oM⟩⟩
     case measure=>simp [intOf]; omega
    ·
     go_wp2_with (at_builtin; refine appU rfl _ _ rfl w.heap.size u5 zs rfl (hown.alloc _) _ 1 _ [(x + 4294967296 - d)] rfl (LimbsAt.one _ ((x + 4294967296 - d)) oM _ (by first | rfl | omega | (rw [IntKind.wrap_u32]; omega))) rfl oM (by have:=hbel.size; simp; omega) ?_; intro v' w' hown' hgr'; have hbel' : Below w.heap.size w w':=(hbel.alloc hbel.size _).grown hgr' (by have:=hbel.size; simp; omega) (fun g hg=>hown.base_le g hg))
     go_roundw
     case rel=>exact ⟨k + 1,1,zs ++ [(x + 4294967296 - d)],by omega,by go_num,rfl,by omega,hown',hbel',⟨by simp [HH.out.1],minus_snoc HH.out.1 HH.out.2 HX.out HY.out oM⟩⟩
     case measure=>simp [intOf]; omega
  ·obtain rfl : n1 = k:=by omega
   go_wp2
   go_ret
   obtain ⟨ao',cap',hv,q1,q2,q3⟩:=hown.at_
   have h4:=HH.out.2
   rw [nat_take_all xs oM,nat_take_all ys oM] at h4
   have h2:=nat_lt hown.1
   rw [HH.out.1] at h2
   have h3:=HV.out
   refine ⟨ao',_,cap',zs,by rw [hv]; rfl,rfl,q1,q2,q3,?_,hbel,by rw [LIM_eq]; omega⟩
   generalize B32 ^ n1 = p at h4 h2
   have h5 : d = 0 ∨ d = 1:=by omega
   rcases h5 with rfl | rfl <;> omega
set_option maxHeartbeats 1000000 in
theorem r1add_any (v1 v2 : Value) (z1 z2 : Int) (w : World) (h1 : IntV w v1 z1) (h2 : IntV w v2 z2) (s1 : Sm z1) (s2 : Sm z2) :
  Calls Tryz.prog 106 #[v1,v2] w (RetInt w (z1 + z2)):=by
 obtain ⟨neg1,ao1,n1,cap1,xs,rfl,hn1,hl1,hc1,hx1,hN1,hz1,hp1,hq1⟩:=h1.len s1
 obtain ⟨neg2,ao2,n2,cap2,ys,rfl,hn2,hl2,hc2,hx2,hN2,hz2,hp2,hq2⟩:=h2.len s2
 have HN1:=Lib.hid hn1
 have HN2:=Lib.hid hn2
 have HZ1:=Lib.hid hz1
 have HZ2:=Lib.hid hz2
 clear hn1 hn2 hz1 hz2 s1 s2 h1 h2 hp1 hp2
 have hq1' : n1<=4 * LIM:=by omega
 have hq2' : n2<=4 * LIM:=by omega
 clear hq1 hq2
 by_cases hs : neg1 = neg2
 ·subst hs
  go_enter Tryz.func106,Tryz.ntmps106
  go_upto_region 1 with (fail)
  refine wp_world ?_
  intro W0 hW0
  obtain ⟨hB0,bx1,bx2,br,hs0⟩:=world3 hW0
  obtain ⟨c1,c2,c3,c4⟩:=bx1.two
  obtain ⟨d1,d2,d3,d4⟩:=bx2.two
  go_wp2_with fail
  have lx1:=lx (nx hB0 (dr W0))
  go_region_held3 (fun w'=>w'.cell? ⟨w.heap.size,1,none⟩ = some (.slice ao1 n1 cap1)/\w'.cell? ⟨w.heap.size + 1,1,none⟩ = some (.slice ao2 n2 cap2)/\w'.cell? ⟨w.heap.size,0,none⟩ = some (.bool neg1))
   ((((try go_split_ands); (repeat' apply And.intro)) <;> first | exact kc_drew (by assumption) | exact kc_below (by assumption) hb1 | exact kc_below (by assumption) hb2 | exact kc_set (kc_set (by assumption) oM) oM))
   (first
    | (go_at_call 121; refine (r1plus_any ao1 ao2 n1 cap1 n2 cap2 xs ys _ HN1.out HN2.out hq1' hq2' (hx1.ext lx1) (hx2.ext lx1)).mono ?_; rintro e w1 ⟨ao,len,cap,zs,rfl,hz1,hz2,hz3,hz4,hz5,hb1,hz6⟩; have br1:=br.drew.below hb1)
    | (go_at_call 70; refine (made_any ao len cap zs neg1 _ hz1 hz2 hz3 hz6 hz4).mono ?_; rintro e w2 ⟨v,rfl,hv,hb2⟩; have br2:=br1.below hb2; obtain ⟨e1,e2,e3,e4⟩:=br2.two; obtain ⟨vn,va,vl,vc,vx,rfl,hv2⟩:=hv))
  go_wp2_with fail
  refine bodyPost_int rfl rfl rfl (br2.put2 _ _) ?_ (bset (bset (nx (nx (nx hB0 (dr W0)) hb1) hb2) oM 0 _) oM 1 _)
  refine IntV.ext ?_ (br2.lext2 dE _ _)
  rw [hz5] at hv2
  rw [HZ1.out,HZ2.out,<-sgn_add]
  exact ⟨vn,va,vl,vc,vx,rfl,hv2⟩
 ·have hs' : (neg1 == neg2) = false:=by simpa using hs
  have Hs:=Lib.hid hs
  clear hs
  have hless:=fun W h1 h2=>less_any ao1 ao2 n1 cap1 n2 cap2 xs ys W HN1.out HN2.out hl1 hl2 hc1 hc2 h1 h2 hN1 hN2
  by_cases hlt : nat xs < nat ys
  ·rw [decide_eq_true hlt] at hless
   go_enter Tryz.func106,Tryz.ntmps106
   go_upto_region 1 with (fail)
   refine wp_world ?_
   intro W0 hW0
   obtain ⟨hB0,bx1,bx2,br,hs0⟩:=world3 hW0
   obtain ⟨c1,c2,c3,c4⟩:=bx1.two
   obtain ⟨d1,d2,d3,d4⟩:=bx2.two
   go_wp2_with (go_at_call 105; refine (hless _ (hx1.ext (lx hB0)) (hx2.ext (lx hB0))).mono ?_; rintro e w' ⟨rfl,nd,rfl⟩)
   have lx1:=lx (nx (nx hB0 (drN W0 nd)) (dr (W0.drewN nd)))
   go_region_held3 (fun w'=>w'.cell? ⟨w.heap.size,1,none⟩ = some (.slice ao1 n1 cap1)/\w'.cell? ⟨w.heap.size + 1,1,none⟩ = some (.slice ao2 n2 cap2)/\w'.cell? ⟨(w.heap.size + 1),0,none⟩ = some (.bool neg2))
    ((((try go_split_ands); (repeat' apply And.intro)) <;> first | exact kc_drew (by assumption) | exact kc_below (by assumption) hb1 | exact kc_below (by assumption) hb2 | exact kc_set (kc_set (by assumption) oM) oM))
    (first
     | (go_at_call 122; refine (r1minus_any ao2 ao1 n2 cap2 n1 cap1 ys xs _ HN2.out HN1.out hq2' (hx2.ext lx1) (hx1.ext lx1) (by rw [<-HN1.out,<-HN2.out]; exact nat_length hx2.1 hN1 oM) oM).mono ?_; rintro e w1 ⟨ao,len,cap,zs,rfl,hz1,hz2,hz3,hz4,hz5,hb1,hz6⟩; have br1:=(br.drewN nd).drew.below hb1)
     | (go_at_call 70; refine (made_any ao len cap zs neg2 _ hz1 hz2 hz3 hz6 hz4).mono ?_; rintro e w2 ⟨v,rfl,hv,hb2⟩; have br2:=br1.below hb2; obtain ⟨e1,e2,e3,e4⟩:=br2.two; obtain ⟨vn,va,vl,vc,vx,rfl,hv2⟩:=hv))
   go_wp2_with fail
   refine bodyPost_int rfl rfl rfl (br2.put2 _ _) ?_ (bset (bset (nx (nx (nx (nx hB0 (drN W0 nd)) (dr (W0.drewN nd))) hb1) hb2) oM 0 _) oM 1 _)
   refine IntV.ext ?_ (br2.lext2 dE _ _)
   rw [hz5] at hv2
   rw [HZ1.out,HZ2.out,<-sgn_sub2 Hs.out _ _ oM]
   exact ⟨vn,va,vl,vc,vx,rfl,hv2⟩
  ·rw [decide_eq_false hlt] at hless
   go_enter Tryz.func106,Tryz.ntmps106
   go_upto_region 1 with (fail)
   refine wp_world ?_
   intro W0 hW0
   obtain ⟨hB0,bx1,bx2,br,hs0⟩:=world3 hW0
   obtain ⟨c1,c2,c3,c4⟩:=bx1.two
   obtain ⟨d1,d2,d3,d4⟩:=bx2.two
   go_wp2_with (go_at_call 105; refine (hless _ (hx1.ext (lx hB0)) (hx2.ext (lx hB0))).mono ?_; rintro e w' ⟨rfl,nd,rfl⟩)
   have lx1:=lx (nx (nx hB0 (drN W0 nd)) (dr (W0.drewN nd)))
   go_region_held3 (fun w'=>w'.cell? ⟨w.heap.size,1,none⟩ = some (.slice ao1 n1 cap1)/\w'.cell? ⟨w.heap.size + 1,1,none⟩ = some (.slice ao2 n2 cap2)/\w'.cell? ⟨w.heap.size,0,none⟩ = some (.bool neg1))
    ((((try go_split_ands); (repeat' apply And.intro)) <;> first | exact kc_drew (by assumption) | exact kc_below (by assumption) hb1 | exact kc_below (by assumption) hb2 | exact kc_set (kc_set (by assumption) oM) oM))
    (first
     | (go_at_call 122; refine (r1minus_any ao1 ao2 n1 cap1 n2 cap2 xs ys _ HN1.out HN2.out hq1' (hx1.ext lx1) (hx2.ext lx1) (by rw [<-HN1.out,<-HN2.out]; exact nat_length hx1.1 hN2 oM) oM).mono ?_; rintro e w1 ⟨ao,len,cap,zs,rfl,hz1,hz2,hz3,hz4,hz5,hb1,hz6⟩; have br1:=(br.drewN nd).drew.below hb1)
     | (go_at_call 70; refine (made_any ao len cap zs neg1 _ hz1 hz2 hz3 hz6 hz4).mono ?_; rintro e w2 ⟨v,rfl,hv,hb2⟩; have br2:=br1.below hb2; obtain ⟨e1,e2,e3,e4⟩:=br2.two; obtain ⟨vn,va,vl,vc,vx,rfl,hv2⟩:=hv))
   go_wp2_with fail
   refine bodyPost_int rfl rfl rfl (br2.put2 _ _) ?_ (bset (bset (nx (nx (nx (nx hB0 (drN W0 nd)) (dr (W0.drewN nd))) hb1) hb2) oM 0 _) oM 1 _)
   refine IntV.ext ?_ (br2.lext2 dE _ _)
   rw [hz5] at hv2
   rw [HZ1.out,HZ2.out,<-sgn_sub1 Hs.out _ _ oM]
   exact ⟨vn,va,vl,vc,vx,rfl,hv2⟩
theorem Sm.neg {z : Int} (h : Sm z) : Sm (-z):=by unfold Sm at h ⊢; rwa [Int.natAbs_neg]
set_option maxHeartbeats 1000000 in
theorem r1sub_any (v1 v2 : Value) (z1 z2 : Int) (w : World) (h1 : IntV w v1 z1) (h2 : IntV w v2 z2) (s1 : Sm z1) (s2 : Sm z2) :
  Calls Tryz.prog 157 #[v1,v2] w (RetInt w (z1 - z2)):=by
 have H1:=Lib.hid h1
 have H2:=Lib.hid h2
 obtain ⟨neg1,ao1,n1,cap1,xs,rfl,-⟩:=h1
 obtain ⟨neg2,ao2,n2,cap2,ys,rfl,-⟩:=h2
 have hneg:=fun W h=>r1neg_any (.agg #[.bool neg2,.slice ao2 n2 cap2]) z2 W h s2
 have hadd:=fun v W h1 h2=>r1add_any (.agg #[.bool neg1,.slice ao1 n1 cap1]) v z1 (-z2) W h1 h2 s1 s2.neg
 clear s1 s2
 go_enter Tryz.func157,Tryz.ntmps157
 go_upto_region 1 with (fail)
 refine wp_world ?_
 intro W0 hW0
 obtain ⟨hB0,bx1,bx2,br,hs0⟩:=world3 hW0
 obtain ⟨c1,c2,c3,c4⟩:=bx1.two
 obtain ⟨d1,d2,d3,d4⟩:=bx2.two
 have lx1:=lx (nx hB0 (dr W0))
 go_region_held3 (fun w'=>w'.cell? ⟨w.heap.size,0,none⟩ = some (.bool neg1)/\w'.cell? ⟨w.heap.size,1,none⟩ = some (.slice ao1 n1 cap1)/\w'.cell? ⟨w.heap.size + 1,0,none⟩ = some (.bool neg2)/\w'.cell? ⟨w.heap.size + 1,1,none⟩ = some (.slice ao2 n2 cap2))
  ((((try go_split_ands); (repeat' apply And.intro)) <;> first | exact kc_drew (by assumption) | exact kc_below (by assumption) hb1 | exact kc_below (by assumption) hb2 | exact kc_set (kc_set (by assumption) oM) oM))
  (first
   | (go_at_call 140; refine (hneg _ (H2.out.weak.ext lx1)).mono ?_; rintro e w1 ⟨vneg,rfl,hvn,hb1⟩; have br1:=br.drew.below hb1; have h1':=H1.out.ext (lx (nx (nx hB0 (dr W0)) hb1)))
   | (go_at_call 106; refine (hadd vneg _ h1' hvn).mono ?_; rintro e w2 ⟨v,rfl,hv,hb2⟩; have br2:=br1.below hb2; obtain ⟨e1,e2,e3,e4⟩:=br2.two; obtain ⟨vn,va,vl,vc,vx,rfl,hv2⟩:=hv))
 go_wp2_with fail
 refine bodyPost_int rfl rfl rfl (br2.put2 _ _) ?_ (bset (bset (nx (nx (nx hB0 (dr W0)) hb1) hb2) oM 0 _) oM 1 _)
 refine IntV.ext ?_ (br2.lext2 dE _ _)
 rw [Int.sub_eq_add_neg]
 exact ⟨vn,va,vl,vc,vx,rfl,hv2⟩
theorem sgn_eq {a b : Bool} {m n : Nat} (h : sgn a m = sgn b n) : m = n/\(m ≠ 0->a = b):=by
 have h1:=congrArg Int.natAbs h
 rw [natAbs_sgn,natAbs_sgn] at h1
 subst h1
 refine ⟨rfl,fun h0=>?_⟩
 cases a <;> cases b <;> simp at h ⊢ <;> omega
set_option maxHeartbeats 1000000 in
theorem r1same_any (v1 v2 : Value) (z1 z2 : Int) (w : World) (h1 : IntV w v1 z1) (h2 : IntV w v2 z2) :
  Calls Tryz.prog 62 #[v1,v2] w fun e w'=>e = .returned (.bool (decide (z1 = z2)))/\Below w.heap.size w w':=by
 obtain ⟨neg1,ao1,n1,cap1,xs,rfl,hn1,hl1,hc1,hx1,hN1,hz1,hp1⟩:=h1
 obtain ⟨neg2,ao2,n2,cap2,ys,rfl,hn2,hl2,hc2,hx2,hN2,hz2,hp2⟩:=h2
 have hz : Hid (z1 = z2 ↔ (neg1 = neg2/\¬ nat xs < nat ys/\¬ nat ys < nat xs)):=by
  show _ ↔ _
  rw [hz1,hz2]
  constructor
  ·intro h
   obtain ⟨h3,h4⟩:=sgn_eq h
   refine ⟨?_,by omega,by omega⟩
   by_cases h0 : nat xs = 0
   ·have e1:=(nat_eq_zero hN1).1 h0
    have e2:=(nat_eq_zero hN2).1 oM
    subst e1; subst e2
    rw [hp1 hn1.symm,hp2 hn2.symm]
   ·exact h4 h0
  ·rintro ⟨h3,h4,h5⟩
   rw [h3,show nat xs = nat ys by omega]
 have hl12:=fun W h1 h2=>less_any ao1 ao2 n1 cap1 n2 cap2 xs ys W hn1 hn2 hl1 hl2 hc1 hc2 h1 h2 hN1 hN2
 have hl21:=fun W h1 h2=>less_any ao2 ao1 n2 cap2 n1 cap1 ys xs W hn2 hn1 hl2 hl1 hc2 hc1 h1 h2 hN2 hN1
 clear hn1 hn2 hz1 hz2 hp1 hp2
 by_cases hs : neg1 = neg2
 ·subst hs
  by_cases h12 : nat xs < nat ys
  ·rw [decide_eq_true h12] at hl12
   have E : Hid (decide (z1 = z2) = false):=by show _ = _; rw [decide_eq_false]; rw [hz.out]; omega
   clear hz
   go_enter Tryz.func62,Tryz.ntmps62
   go_upto_region 1 with (fail)
   refine wp_world ?_
   intro W0 hW0
   obtain ⟨hB0,bx1,bx2,hs0⟩:=world2 hW0
   obtain ⟨c1,c2,c3,c4⟩:=bx1.two
   obtain ⟨d1,d2,d3,d4⟩:=bx2.two
   go_wp2_with (go_at_call 105; refine (hl12 _ (hx1.ext (lx hB0)) (hx2.ext (lx hB0))).mono ?_; rintro e w' ⟨rfl,nd,rfl⟩)
   go_ret
   exact ⟨by rw [E.out]; rfl,nx hB0 (drN _ _)⟩
  ·rw [decide_eq_false h12] at hl12
   by_cases h21 : nat ys < nat xs
   ·rw [decide_eq_true h21] at hl21
    have E : Hid (decide (z1 = z2) = false):=by show _ = _; rw [decide_eq_false]; rw [hz.out]; omega
    clear hz
    go_enter Tryz.func62,Tryz.ntmps62
    go_upto_region 1 with (fail)
    refine wp_world ?_
    intro W0 hW0
    obtain ⟨hB0,bx1,bx2,hs0⟩:=world2 hW0
    obtain ⟨c1,c2,c3,c4⟩:=bx1.two
    obtain ⟨d1,d2,d3,d4⟩:=bx2.two
    go_wp2_with fail
    refine (hl12 _ (hx1.ext (lx hB0)) (hx2.ext (lx hB0))).mono ?_
    rintro e w' ⟨rfl,nd,rfl⟩
    go_wp2_with fail
    refine (hl21 _ (hx2.ext (lx (nx hB0 (drN _ _)))) (hx1.ext (lx (nx hB0 (drN _ _))))).mono ?_
    rintro e w' ⟨rfl,nd2,rfl⟩
    go_wp2_with fail
    go_ret
    exact ⟨by rw [E.out]; rfl,nx hB0 (drN _ _)⟩
   ·rw [decide_eq_false h21] at hl21
    have E : Hid (decide (z1 = z2) = true):=by show _ = _; rw [decide_eq_true]; rw [hz.out]; exact ⟨rfl,h12,h21⟩
    clear hz
    go_enter Tryz.func62,Tryz.ntmps62
    go_upto_region 1 with (fail)
    refine wp_world ?_
    intro W0 hW0
    obtain ⟨hB0,bx1,bx2,hs0⟩:=world2 hW0
    obtain ⟨c1,c2,c3,c4⟩:=bx1.two
    obtain ⟨d1,d2,d3,d4⟩:=bx2.two
    go_wp2_with fail
    refine (hl12 _ (hx1.ext (lx hB0)) (hx2.ext (lx hB0))).mono ?_
    rintro e w' ⟨rfl,nd,rfl⟩
    go_wp2_with fail
    refine (hl21 _ (hx2.ext (lx (nx hB0 (drN _ _)))) (hx1.ext (lx (nx hB0 (drN _ _))))).mono ?_
    rintro e w' ⟨rfl,nd2,rfl⟩
    go_wp2_with fail
    go_ret
    exact ⟨by rw [E.out]; rfl,nx hB0 (drN _ _)⟩
 ·have hs' : (neg1 == neg2) = false:=by simpa using hs
  have E : Hid (decide (z1 = z2) = false):=by show _ = _; rw [decide_eq_false]; rw [hz.out]; intro h; exact hs h.1
  clear hz hs
  go_enter Tryz.func62,Tryz.ntmps62
  go_wp2_with fail
  go_ret
  exact ⟨by rw [E.out]; rfl,((Below.refl _ _).alloc (Nat.le_refl _) _).alloc sI _⟩
section
variable {P : Program} {ops : Array Oper} {Q : Exit->Act->World->Prop}
def edgesBack (ops : Array Oper) : Bool:=(List.range ops.size).all fun i=>((ops[i]?).map (fun o=>o.after.all fun e=>!Region.binds .any e || decide (e.on < i))).getD true
theorem edgesBack_spec (h : edgesBack ops = true) {i : Nat} {o : Oper} (ho : ops[i]? = some o) : ∀e ∈ o.after,Region.binds .any e = true->e.on < i:=by
 intro e he hbd
 have hi : i < ops.size:=(Array.getElem?_eq_some_iff.1 ho).1
 have h1:=List.all_eq_true.1 h i (List.mem_range.2 hi)
 rw [ho] at h1
 have h2:=Array.all_eq_true_iff_forall_mem.1 h1 e he
 simpa [hbd] using h2
theorem ready_nil_listed (hb : edgesBack ops = true) {L : Array Bool} (hs : L.size = ops.size) (hr : Region.ready .any ops L = []) :
  ∀i,i < ops.size->L[i]? = some true:=by
 intro i
 induction i using Nat.strongRecOn with
 | ind i ih=>
  intro hi
  have hi' : i < L.size:=by omega
  cases hc : L[i] with
  | true=>rw [Array.getElem?_eq_getElem hi',hc]
  | false=>
   exfalso
   have hm : i ∈ Region.ready .any ops L:=by
    rw [mem_ready]
    refine ⟨by simp [hi',hc],ops[i],Array.getElem?_eq_getElem hi,?_⟩
    intro e he hbd
    have hlt:=edgesBack_spec hb (Array.getElem?_eq_getElem hi) e he hbd
    have:=ih e.on hlt (by omega)
    simp [this]
   rw [hr] at hm
   cases hm
theorem all_listed {L : Array Bool} {n : Nat} (hs : L.size = n) (h : ∀i,i < n->L[i]? = some true) : L = Array.replicate n true:=by
 apply Array.ext
 ·simp [hs]
 ·intro i h1 h2
  have:=h i (by omega)
  rw [Array.getElem?_eq_getElem h1] at this
  simpa using this
def left (L : Array Bool) : Nat:=L.toList.count false
theorem left_set {L : Array Bool} {i : Nat} (h : L[i]? = some false) : left (L.setIfInBounds i true) + 1 = left L:=by
 unfold left
 obtain ⟨hi,hv⟩:=Array.getElem?_eq_some_iff.1 h
 have hi' : i < L.toList.length:=by simpa using hi
 rw [Array.toList_setIfInBounds,List.count_set hi']
 have hv' : L.toList[i] = false:=by simpa using hv
 have hpos : 0 < L.toList.count false:=List.count_pos_iff.2 (by rw [<-hv']; exact List.getElem_mem hi')
 have e1 : (L.toList[i] == false) = true:=by rw [hv']; rfl
 have e2 : (true == false) = false:=rfl
 rw [e1,e2]
 simp only [if_true,Bool.false_eq_true,if_false]
 omega
def waits (o : Oper) (k : Nat) : Bool:=o.after.any fun e=>Region.binds .any e && e.on == k
def StepAt (P : Program) (ops : Array Oper) (Q : Exit->Act->World->Prop) (ds : List Deferred) (I : Array Bool->Array Value->World->Prop) (i : Nat) (o : Oper) : Prop:=
 ∀L T w,L[i]? = some false->(∀(k : Nat) (_ : waits o k = true:=by kernel_rfl),L[k]? = some true)->(∀(j : Nat) (o' : Oper),ops[j]? = some o'->L[j]? = some true->∀k,waits o' k = true->L[k]? = some true)->I L T w->∀K : Act->World->Prop,(∀T' w',I (L.setIfInBounds i true) T' w'->K ⟨T',ds⟩ w') ->
   if Region.wanted o (yielded ops T) = true then Oper.wp P o ⟨T,ds⟩ w K Q else K ((⟨T,ds⟩ : Act).put o.dst undef) w
theorem step_wanted {o : Oper} {T : Array Value} {A B : Prop} (h : Region.wanted o (yielded ops T) = true) (hh : A) : if Region.wanted o (yielded ops T) = true then A else B:=by
 rw [if_pos h]; exact hh
def ClosedL (ops : Array Oper) (L : Array Bool) : Prop:=∀(j : Nat) (o' : Oper),ops[j]? = some o'->L[j]? = some true->∀k,waits o' k = true->L[k]? = some true
theorem ClosedL.start {n : Nat} : ClosedL ops (Array.replicate n false):=by
 intro j o' _ h
 rw [Array.getElem?_replicate] at h
 split at h <;> simp at h
theorem listed_mono {L : Array Bool} {i j : Nat} (h : L[j]? = some true) : (L.setIfInBounds i true)[j]? = some true:=by
 by_cases e : i = j
 ·subst e
  exact Array.getElem?_setIfInBounds_self_of_lt (Array.getElem?_eq_some_iff.1 h).1
 ·rw [Array.getElem?_setIfInBounds_ne e]; exact h
theorem ClosedL.set {L : Array Bool} {i : Nat} {o : Oper} (h : ClosedL ops L) (ho : ops[i]? = some o) (hd : ∀k,waits o k = true->L[k]? = some true) : ClosedL ops (L.setIfInBounds i true):=by
 intro j o' ho' hj k hk
 by_cases e : i = j
 ·subst e
  have : o' = o:=Option.some.inj (ho'.symm.trans ho)
  subst this
  exact listed_mono (hd k hk)
 ·rw [Array.getElem?_setIfInBounds_ne e] at hj
  exact listed_mono (h j o' ho' hj k hk)
theorem wpAny_inv {I : Array Bool->Array Value->World->Prop} {ds : List Deferred} (hb : edgesBack ops = true)
  (hstep : ∀i o,ops[i]? = some o->StepAt P ops Q ds I i o)
  (hend : ∀T w,I (Array.replicate ops.size true) T w->Q .normal ⟨T,ds⟩ w) :
  ∀(fuel : Nat) (L : Array Bool) (T : Array Value) (w : World),L.size = ops.size->left L<=fuel->ClosedL ops L->I L T w->wpAny P .any ops Q fuel L ⟨T,ds⟩ w:=by
 intro fuel
 induction fuel with
 | zero=>
  intro L T w hs hl hcl hI
  have hall : ∀i,i < ops.size->L[i]? = some true:=by
   intro i hi
   have hi' : i < L.size:=by omega
   cases hc : L[i] with
   | true=>rw [Array.getElem?_eq_getElem hi',hc]
   | false=>
    exfalso
    have:=left_set (L:=L) (i:=i) (by rw [Array.getElem?_eq_getElem hi',hc])
    omega
  have hL:=all_listed hs hall
  refine ⟨?_,hend T w (hL ▸ hI)⟩
  cases hr : Region.ready .any ops L with
  | nil=>rfl
  | cons x xs=>
   have hx : x ∈ Region.ready .any ops L:=by rw [hr]; simp
   rw [mem_ready] at hx
   obtain ⟨h0,o,ho,-⟩:=hx
   have hx' : x < ops.size:=(Array.getElem?_eq_some_iff.1 ho).1
   have:=hall x hx'
   simp [this] at h0
 | succ fuel ih=>
  intro L T w hs hl hcl hI
  refine ⟨fun hr=>hend T w (all_listed hs (ready_nil_listed hb hs hr) ▸ hI),?_⟩
  intro i hi
  obtain ⟨h0,o,ho,hall⟩:=mem_ready.1 hi
  have hio : i < ops.size:=(Array.getElem?_eq_some_iff.1 ho).1
  have hiL : i < L.size:=by omega
  have hLi : L[i]? = some false:=by
   rw [Array.getElem?_eq_getElem hiL]
   simpa [hiL] using h0
  have hdep : ∀k,waits o k = true->L[k]? = some true:=by
   intro k hk
   unfold waits at hk
   rw [<-Array.any_toList,List.any_eq_true] at hk
   obtain ⟨e,he,hk⟩:=hk
   have he:=Array.mem_toList_iff.1 he
   simp only [Bool.and_eq_true,beq_iff_eq] at hk
   obtain ⟨hbd,hon⟩:=hk
   subst hon
   have hlt:=edgesBack_spec hb ho e he hbd
   have h1:=hall e he hbd
   have h2 : e.on < L.size:=by omega
   rw [Array.getElem?_eq_getElem h2]
   simpa [h2] using h1
  have hls:=left_set hLi
  refine wpOp_step ho (fun K' hK=>?_)
  exact hstep i o ho L T w hLi hdep hcl hI K' (fun T' w' hI'=>hK ⟨T',ds⟩ w' (ih _ _ _ (by simp [hs]) (by omega) (hcl.set ho hdep) hI'))
theorem wp_region_inv {id : Nat} {T0 : Array Value} {ds : List Deferred} {w : World} (hm : P.follows .mixedOrders = true) (I : Array Bool->Array Value->World->Prop) (hb : edgesBack ops = true)
  (h0 : I (Array.replicate ops.size false) T0 w.drew)
  (hstep : ∀i o,ops[i]? = some o->StepAt P ops Q ds I i o)
  (hend : ∀T w,I (Array.replicate ops.size true) T w->Q .normal ⟨T,ds⟩ w) : (Code.region id ops true).wp P Q ⟨T0,ds⟩ w:=
 wp_region_any hm (wpAny_inv hb hstep hend ops.size _ T0 _ (by simp) (by
  unfold left
  rw [Array.toList_replicate,List.count_replicate]
  simp) ClosedL.start h0)
def EachOp (p : Nat->Oper->Prop) : Nat->List Oper->Prop
 | _,[]=>True
 | i,o :: os=>p i o/\EachOp p (i + 1) os
theorem EachOp.get {p : Nat->Oper->Prop} : ∀{l : List Oper} {k : Nat},EachOp p k l->∀i o,l[i]? = some o->p (k + i) o
 | [],_,_,i,o,h=>by simp at h
 | x :: xs,k,hh,i,o,h=>by
  cases i with
  | zero=>simp at h; subst h; exact hh.1
  | succ i=>
   have:=EachOp.get hh.2 i o (by simpa using h)
   rwa [show k + 1 + i = k + (i + 1) by omega] at this
theorem wp_region_each {id : Nat} {os : List Oper} {T0 : Array Value} {ds : List Deferred} {w : World} (hm : P.follows .mixedOrders = true) (I : Array Bool->Array Value->World->Prop) (hb : edgesBack os.toArray = true)
  (h0 : I (Array.replicate os.length false) T0 w.drew)
  (hend : ∀T w,I (Array.replicate os.length true) T w->Q .normal ⟨T,ds⟩ w)
  (hstep : EachOp (StepAt P os.toArray Q ds I) 0 os) : (Code.region id os.toArray true).wp P Q ⟨T0,ds⟩ w:=
 wp_region_inv hm I hb (by simpa using h0) (fun i o ho=>by
  have:=hstep.get i o (by simpa using ho)
  rw [Nat.zero_add] at this
  exact this) (by simpa using hend)
end
section
variable {P : Program} {l : List Oper} {Q : Exit->Act->World->Prop}
def headL (n m : Nat) : Array Bool:=(List.replicate n true ++ List.replicate (m - n) false).toArray
def headB (l : List Oper) (n : Nat) : Bool:=
 decide (n < l.length) && edgesBack l.toArray && Region.sinkB .any l.toArray n && Region.chainB .any l.toArray n && Region.seqB .any l.toArray (l.length - n) n (headL n l.length)
theorem left_tail {L : Array Bool} {n : Nat} (hs : n<=L.size) (ht : ∀t,n<=t->t < L.size->L[t]? = some false) (hl : left L = L.size - n) : L = headL n L.size:=by
 have h1 : L.toList = L.toList.take n ++ L.toList.drop n:=(List.take_append_drop n _).symm
 have h2 : L.toList.drop n = List.replicate (L.size - n) false:=by
  apply List.ext_getElem
  ·simp
  ·intro i hi _
   simp only [List.getElem_drop,List.getElem_replicate]
   have:=ht (n + i) (by omega) (by simp at hi; omega)
   obtain ⟨_,h⟩:=Array.getElem?_eq_some_iff.1 this
   simpa using h
 have h3 : (L.toList.take n).count false = 0:=by
  unfold left at hl
  rw [h1,List.count_append,h2,List.count_replicate] at hl
  simp at hl
  simpa using hl
 have h4 : L.toList.take n = List.replicate n true:=by
  rw [List.eq_replicate_iff]
  refine ⟨by simp; omega,fun b hb=>?_⟩
  cases b with
  | true=>rfl
  | false=>exact absurd hb (List.count_eq_zero.1 h3)
 apply Array.toList_inj.1
 rw [h1,h2,h4]
 simp [headL]
theorem wpAny_head {n : Nat} {I : Array Bool->Array Value->World->Prop} {ds : List Deferred} (hB : headB l n = true)
  (hstep : ∀i o,l[i]? = some o->i < n->StepAt P l.toArray Q ds I i o)
  (hend : ∀T w,I (headL n l.length) T w->wpList P l.toArray Q (l.drop n) ⟨T,ds⟩ w) :
  ∀(f : Nat) (L : Array Bool) (T : Array Value) (w : World),HeadInv .any l.toArray n L->left L = f + (l.length - n)->ClosedL l.toArray L->I L T w->wpAny P .any l.toArray Q (f + (l.length - n)) L ⟨T,ds⟩ w:=by
 unfold headB at hB
 simp only [Bool.and_eq_true,decide_eq_true_eq] at hB
 obtain ⟨⟨⟨⟨hn,hb⟩,hsk⟩,hch⟩,hsq⟩:=hB
 have htl : ∀{L : Array Bool},HeadInv .any l.toArray n L->∀t,n<=t->t < L.size->L[t]? = some false:=by
  intro L inv t ht hts
  have:=inv.tail t ht (by have:=inv.size; omega)
  rw [Array.getElem?_eq_getElem hts]
  simpa [hts] using this
 intro f
 induction f with
 | zero=>
  intro L T w inv hl hcl hI
  have hsz : L.size = l.length:=by simpa using inv.size
  have hL : L = headL n l.length:=by
   have:=left_tail (L:=L) (n:=n) (by omega) (htl inv) (by rw [hl,hsz]; omega)
   rwa [hsz] at this
  subst hL
  rw [Nat.zero_add]
  have hdl : (l.drop n).length = l.length - n:=by simp
  have:=wpAny_of_seq (P:=P) (md:=.any) (ops:=l.toArray) (Q':=Q) (l.drop n) n (headL n l.length) ⟨T,ds⟩ w (fun j=>by simp [List.getElem?_drop]) (by rw [hdl]; exact hsq) (hend T w hI)
  rwa [hdl] at this
 | succ f ih=>
  intro L T w inv hl hcl hI
  have hsz : L.size = l.length:=by simpa using inv.size
  rw [show f + 1 + (l.length - n) = (f + (l.length - n)) + 1 by omega]
  have hex : ∃i,i < n/\L[i]? = some false:=by
   refine Classical.byContradiction fun hno=>?_
   have hall : ∀i,i < n->L[i]? = some true:=by
    intro i hi
    have hi' : i < L.size:=by omega
    cases hc : L[i] with
    | true=>rw [Array.getElem?_eq_getElem hi',hc]
    | false=>exact absurd ⟨i,hi,by rw [Array.getElem?_eq_getElem hi',hc]⟩ hno
   have hLe : L = headL n l.length:=by
    apply Array.ext_getElem?
    intro j
    unfold headL
    rcases Nat.lt_or_ge j n with hj | hj
    ·rw [hall j hj]; simp [List.getElem?_append,hj]
    ·rcases Nat.lt_or_ge j L.size with hj2 | hj2
     ·rw [htl inv j hj hj2]
      have : j - n < l.length - n:=by omega
      simp [List.getElem?_append,Nat.not_lt.2 hj,this]
     ·rw [Array.getElem?_eq_none hj2]
      symm
      simp
      try omega
   rw [hLe] at hl
   unfold left headL at hl
   simp [List.count_replicate] at hl
  obtain ⟨i0,hi0,hun⟩:=hex
  have hun' : L.getD i0 true = false:=by
   obtain ⟨h1,h2⟩:=Array.getElem?_eq_some_iff.1 hun
   simp [h1,h2]
  refine ⟨fun hr=>?_,?_⟩
  ·have:=ready_nil_listed hb inv.size hr i0 (by simp; omega)
   rw [this] at hun
   cases hun
  ·intro i hi
   have hin : i < n:=by
    rcases Nat.lt_or_ge i n with h | h
    ·exact h
    ·exact absurd hi (tail_waits hsk hch (by simpa using hn) inv _ i0 rfl hi0 hun' i h)
   obtain ⟨h0,o,ho,hall⟩:=mem_ready.1 hi
   have hio : i < l.length:=by have:=(Array.getElem?_eq_some_iff.1 ho).1; simpa using this
   have hiL : i < L.size:=by omega
   have hLi : L[i]? = some false:=by
    rw [Array.getElem?_eq_getElem hiL]
    simpa [hiL] using h0
   have hdep : ∀k,waits o k = true->L[k]? = some true:=by
    intro k hk
    unfold waits at hk
    rw [<-Array.any_toList,List.any_eq_true] at hk
    obtain ⟨e,he,hk⟩:=hk
    have he:=Array.mem_toList_iff.1 he
    simp only [Bool.and_eq_true,beq_iff_eq] at hk
    obtain ⟨hbd,hon⟩:=hk
    subst hon
    have hlt:=edgesBack_spec hb ho e he hbd
    have h1:=hall e he hbd
    have h2 : e.on < L.size:=by omega
    rw [Array.getElem?_eq_getElem h2]
    simpa [h2] using h1
   have hls:=left_set hLi
   refine wpOp_step ho (fun K' hK=>?_)
   exact hstep i o (by simpa using ho) hin L T w hLi hdep hcl hI K' (fun T' w' hI'=>hK ⟨T',ds⟩ w' (ih _ _ _ (inv.set hi hin) (by omega) (hcl.set ho hdep) hI'))
theorem wp_region_headed {id : Nat} {T0 : Array Value} {ds : List Deferred} {w : World} (n : Nat) (hm : P.follows .mixedOrders = true) (I : Array Bool->Array Value->World->Prop) (hB : headB l n = true)
  (h0 : I (Array.replicate l.length false) T0 w.drew)
  (hend : ∀T w,I (headL n l.length) T w->wpList P l.toArray Q (l.drop n) ⟨T,ds⟩ w)
  (hstep : EachOp (StepAt P l.toArray Q ds I) 0 (l.take n)) : (Code.region id l.toArray true).wp P Q ⟨T0,ds⟩ w:=by
 have hn : n < l.length:=by
  unfold headB at hB
  simp only [Bool.and_eq_true,decide_eq_true_eq] at hB
  exact hB.1.1.1.1
 have hst : ∀i o,l[i]? = some o->i < n->StepAt P l.toArray Q ds I i o:=by
  intro i o ho hi
  have:=hstep.get i o (by rw [List.getElem?_take_of_lt hi]; exact ho)
  rw [Nat.zero_add] at this
  exact this
 have inv0 : HeadInv .any l.toArray n (Array.replicate l.toArray.size false):=
  ⟨by simp,fun j oj _ hl=>(by rw [getD_replicate_false] at hl; cases hl),fun t _ ht=>getD_in (by simpa using ht) (getD_replicate_false _ _)⟩
 have H:=wpAny_head hB hst hend n (Array.replicate l.toArray.size false) T0 w.drew inv0 (by unfold left; rw [Array.toList_replicate,List.count_replicate]; simp; omega) ClosedL.start (by simpa using h0)
 refine wp_region_any hm ?_
 rw [show n + (l.length - n) = l.toArray.size by simp; omega] at H
 exact H
end
theorem tmps_set : ∀(kv : List (Nat × Value)) {T T0 : Array Value},(∀j,(∀p ∈ kv,p.1 ≠ j)->T[j]? = T0[j]?)->(∀p ∈ kv,T[p.1]? = some p.2)->T.size = T0.size ->
  T = kv.foldl (fun a p=>a.setIfInBounds p.1 p.2) T0
 | [],T,T0,h,_,_=>Array.ext_getElem? (fun j=>h j (fun p hp=>by cases hp))
 | (k,v) :: kv,T,T0,h,hv,hs=>by
  refine tmps_set kv (T0:=T0.setIfInBounds k v) ?_ (fun p hp=>hv p (List.mem_cons_of_mem _ hp)) (by simp [hs])
  intro j hj
  have hk:=hv (k,v) (by simp)
  by_cases e : k = j
  ·subst e
   have hlt : k < T0.size:=by rw [<-hs]; exact (Array.getElem?_eq_some_iff.1 hk).1
   rw [Array.getElem?_setIfInBounds_self_of_lt hlt]
   exact hk
  ·rw [Array.getElem?_setIfInBounds_ne e]
   refine h j ?_
   intro p hp
   rcases List.mem_cons.1 hp with e1 | hp
   ·rw [e1]; exact e
   ·exact hj p hp
theorem inj_of_nodup {α β : Type} {f : α->β} : ∀{l : List α},(l.map f).Nodup->∀{a b : α},a ∈ l->b ∈ l->f a = f b->a = b
 | [],_,_,_,h,_,_=>by cases h
 | x :: xs,hn,a,b,ha,hb,he=>by
  rw [List.map_cons,List.nodup_cons] at hn
  obtain ⟨h1,h2⟩:=hn
  rcases List.mem_cons.1 ha with e1 | ha'
  ·rcases List.mem_cons.1 hb with e2 | hb'
   ·rw [e1,e2]
   ·exact absurd (List.mem_map.2 ⟨b,hb',by rw [<-he,e1]⟩) h1
  ·rcases List.mem_cons.1 hb with e2 | hb'
   ·exact absurd (List.mem_map.2 ⟨a,ha',by rw [he,e2]⟩) h1
   ·exact inj_of_nodup h2 ha' hb' he
/-! ### The invariant: values in their slots,boxes of two cells -/
theorem Blk.below' {w w' : World} {g : Nat} {t : TypeId} {cs : Array Value} {B : Nat} (h : Blk w g t cs) (hb : Below B w w') (hg : g < B) : Blk w' g t cs:=(hb.block g hg).trans h
structure HidS (p : Prop) : Prop where
 out : p
structure VS where
 op : Nat
 slot : Nat
 P : World->Value->Prop
structure BS where
 al : Nat
 slot : Nat
 st : Nat
 P : World->Value->Prop
def Lasts (P : World->Value->Prop) : Prop:=∀w w' v,LExt w w'->P w v->P w' v
theorem lasts_int (z : Int) : Lasts (fun w v=>IntV w v z):=fun _ _ _ e h=>h.ext e
theorem lasts_eq (x : Value) : Lasts (fun _ v=>v = x):=fun _ _ _ _ h=>h
def ptr (b : Nat) : Value:=.pointer (some ⟨b,0,none⟩)
structure ES where
 st : Nat
 blk : Nat
 P : World->Value->Prop
def wellRI (N : Nat) (vs : List VS) (bs : List BS) (es : List ES) : Bool:=
 let slots:=vs.map (·.slot) ++ bs.map (·.slot)
 let ops:=vs.map (·.op) ++ bs.map (·.al) ++ (bs.map (·.st) ++ es.map (·.st))
 decide slots.Nodup && decide ops.Nodup && slots.all (fun s=>decide (s < N))
structure RI (W : World) (n0 : Nat) (T0 : Array Value) (tB : TypeId) (vs : List VS) (bs : List BS) (es : List ES) (L : Array Bool) (T : Array Value) (w : World) : Prop where
 wf : wellRI T0.size vs bs es = true
 tb : tB ≠ tU
 lv : ∀s ∈ vs,Lasts s.P
 lb : ∀s ∈ bs,Lasts s.P
 le : ∀s ∈ es,Lasts s.P
 eb : ∀s ∈ es,s.blk < n0
 ed : ∀s ∈ es,∀t ∈ es,s.st ≠ t.st->s.blk ≠ t.blk
 size : T.size = T0.size
 keep : ∀j,(∀s ∈ vs,s.slot ≠ j)->(∀s ∈ bs,s.slot ≠ j)->T[j]? = T0[j]?
 bel0 : Below 0 W w
 old : ∀k,k < n0->(∀s ∈ es,s.blk ≠ k)->w.heap[k]? = W.heap[k]?
 lext : LExt W w
 ge : n0<=w.heap.size
 sto : ∀s ∈ bs,L[s.st]? = some true->L[s.al]? = some true
 val : ∀s ∈ vs,L[s.op]? = some true->∃v,T[s.slot]? = some v/\s.P w v
 box : ∀s ∈ bs,L[s.al]? = some true->∃b x y,T[s.slot]? = some (ptr b)/\n0<=b/\Blk w b tB #[x,y]/\(L[s.st]? = some true->s.P w (.agg #[x,y]))
 far : ∀s ∈ bs,∀t ∈ bs,s.al ≠ t.al->L[s.al]? = some true->L[t.al]? = some true->∀b c,T[s.slot]? = some (ptr b)->T[t.slot]? = some (ptr c)->b ≠ c
 ex : ∀s ∈ es,(∃x y,Blk w s.blk tB #[x,y]/\(L[s.st]? = some true->s.P w (.agg #[x,y])))/\(L[s.st]? ≠ some true->w.heap[s.blk]? = W.heap[s.blk]?)
section
variable {W : World} {n0 : Nat} {T0 : Array Value} {tB : TypeId} {vs : List VS} {bs : List BS} {es : List ES} {L : Array Bool} {T : Array Value} {w w' : World}
theorem set_true {i j : Nat} (h : (L.setIfInBounds i true)[j]? = some true) (hne : i ≠ j) : L[j]? = some true:=by
 rwa [Array.getElem?_setIfInBounds_ne hne] at h
theorem set_ne {i j : Nat} (h : (L.setIfInBounds i true)[j]? ≠ some true) : L[j]? ≠ some true:=fun hh=>h (listed_mono hh)
theorem RI.start (hwf : wellRI T0.size vs bs es = true:=by kernel_rfl) (htb : tB ≠ tU:=by decide) (hv : ∀s ∈ vs,Lasts s.P:=by repeat' (first | exact lasts_int _ | exact lasts_eq _ | assumption | refine List.forall_mem_cons.2 ⟨?_,?_⟩ | exact List.forall_mem_nil _)) (hbs : ∀s ∈ bs,Lasts s.P:=by repeat' (first | exact lasts_int _ | exact lasts_eq _ | assumption | refine List.forall_mem_cons.2 ⟨?_,?_⟩ | exact List.forall_mem_nil _)) (hes : ∀s ∈ es,Lasts s.P:=by repeat' (first | exact lasts_int _ | exact lasts_eq _ | assumption | refine List.forall_mem_cons.2 ⟨?_,?_⟩ | exact List.forall_mem_nil _)) (heb : ∀s ∈ es,s.blk < n0:=by repeat' (first | refine List.forall_mem_cons.2 ⟨?_,?_⟩ | exact List.forall_mem_nil _ | (dsimp only; omega)))
  (hed : ∀s ∈ es,∀t ∈ es,s.st ≠ t.st->s.blk ≠ t.blk:=by repeat' (first | refine List.forall_mem_cons.2 ⟨?_,?_⟩ | exact List.forall_mem_nil _ | (intro h; exact absurd rfl h) | (intro _; dsimp only; omega))) (hex : ∀s ∈ es,∃x y,Blk W s.blk tB #[x,y]:=by repeat' (first | refine List.forall_mem_cons.2 ⟨?_,?_⟩ | exact List.forall_mem_nil _ | exact ⟨_,_,by assumption⟩)) (hge : n0<=W.heap.size:=by first | exact Nat.le_refl _ | omega) {n : Nat} : RI W n0 T0 tB vs bs es (Array.replicate n false) T0 W.drew:=by
 have hf : ∀k : Nat,(Array.replicate n false)[k]? ≠ some true:=by
  intro k h
  rw [Array.getElem?_replicate] at h
  split at h <;> simp at h
 exact ⟨hwf,htb,hv,hbs,hes,heb,hed,rfl,fun _ _ _=>rfl,(Below.refl _ _).drew,fun _ _ _=>rfl,LExt.refl W,hge,fun s _ h=>absurd h (hf _),fun s _ h=>absurd h (hf _),fun s _ h=>absurd h (hf _),fun s _ t _ _ h=>absurd h (hf _),
  fun s hs=>⟨(hex s hs).elim fun x h=>h.elim fun y h=>⟨x,y,h,fun hh=>absurd hh (hf _)⟩,fun _=>rfl⟩⟩
theorem RI.world (h : RI W n0 T0 tB vs bs es L T w) (hb : Below w.heap.size w w') : RI W n0 T0 tB vs bs es L T w':=by
 have hx : LExt w w':=LExt.below hb (Nat.le_refl _)
 refine ⟨h.wf,h.tb,h.lv,h.lb,h.le,h.eb,h.ed,h.size,h.keep,h.bel0.trans (hb.mono (Nat.zero_le _)),fun k hk hn=>(hb.block k (Nat.lt_of_lt_of_le hk h.ge)).trans (h.old k hk hn),h.lext.trans hx,Nat.le_trans h.ge hb.size,h.sto,?_,?_,h.far,?_⟩
 ·intro s hs hl
  obtain ⟨v,h1,h2⟩:=h.val s hs hl
  exact ⟨v,h1,h.lv s hs _ _ _ hx h2⟩
 ·intro s hs hl
  obtain ⟨b,x,y,h1,h2,h3,h4⟩:=h.box s hs hl
  exact ⟨b,x,y,h1,h2,h3.below hb,fun hh=>h.lb s hs _ _ _ hx (h4 hh)⟩
 ·intro s hs
  obtain ⟨⟨x,y,h1,h2⟩,h3⟩:=h.ex s hs
  exact ⟨⟨x,y,h1.below hb,fun hh=>h.le s hs _ _ _ hx (h2 hh)⟩,fun hh=>(hb.block _ h1.lt).trans (h3 hh)⟩
theorem wellRI.parts {N : Nat} (hwf : wellRI N vs bs es = true) :
  (∀s ∈ vs,s.slot < N)/\(∀s ∈ bs,s.slot < N) ∧
  (∀s ∈ vs,∀t ∈ vs,t ≠ s->t.op ≠ s.op/\t.slot ≠ s.slot) ∧
  (∀s ∈ bs,∀t ∈ bs,t ≠ s->t.al ≠ s.al/\t.slot ≠ s.slot/\t.st ≠ s.st) ∧
  (∀s ∈ vs,∀t ∈ bs,s.op ≠ t.al/\s.op ≠ t.st/\s.slot ≠ t.slot) ∧
  (∀s ∈ bs,∀t ∈ bs,s.al ≠ t.st) ∧
  (∀s ∈ es,∀t ∈ es,t ≠ s->t.st ≠ s.st) ∧
  (∀s ∈ es,(∀t ∈ vs,s.st ≠ t.op)/\∀t ∈ bs,s.st ≠ t.al/\s.st ≠ t.st):=by
 unfold wellRI at hwf
 simp only [Bool.and_eq_true,decide_eq_true_eq,List.all_eq_true] at hwf
 obtain ⟨⟨hw1,hw2⟩,hw3⟩:=hwf
 rw [List.nodup_append] at hw1
 obtain ⟨hw1a,hw1b,hw1c⟩:=hw1
 rw [List.nodup_append] at hw2
 obtain ⟨hw2a,hw2b,hw2c⟩:=hw2
 rw [List.nodup_append] at hw2a hw2b
 obtain ⟨hw2d,hw2e,hw2f⟩:=hw2a
 obtain ⟨hw2g,hw2h,hw2i⟩:=hw2b
 have mv : ∀s ∈ vs,s.op ∈ vs.map (·.op):=fun s hs=>List.mem_map.2 ⟨s,hs,rfl⟩
 have mvs : ∀s ∈ vs,s.slot ∈ vs.map (·.slot):=fun s hs=>List.mem_map.2 ⟨s,hs,rfl⟩
 have mba : ∀s ∈ bs,s.al ∈ bs.map (·.al):=fun s hs=>List.mem_map.2 ⟨s,hs,rfl⟩
 have mbs : ∀s ∈ bs,s.slot ∈ bs.map (·.slot):=fun s hs=>List.mem_map.2 ⟨s,hs,rfl⟩
 have mbt : ∀s ∈ bs,s.st ∈ bs.map (·.st):=fun s hs=>List.mem_map.2 ⟨s,hs,rfl⟩
 have mes : ∀s ∈ es,s.st ∈ es.map (·.st):=fun s hs=>List.mem_map.2 ⟨s,hs,rfl⟩
 refine ⟨fun s hs=>hw3 _ (List.mem_append_left _ (mvs s hs)),fun s hs=>hw3 _ (List.mem_append_right _ (mbs s hs)),?_,?_,?_,?_,?_,?_⟩
 ·exact fun s hs t ht hne=>⟨fun e=>hne (inj_of_nodup hw2d ht hs e),fun e=>hne (inj_of_nodup hw1a ht hs e)⟩
 ·exact fun s hs t ht hne=>⟨fun e=>hne (inj_of_nodup hw2e ht hs e),fun e=>hne (inj_of_nodup hw1b ht hs e),fun e=>hne (inj_of_nodup hw2g ht hs e)⟩
 ·exact fun s hs t ht=>⟨hw2f _ (mv s hs) _ (mba t ht),hw2c _ (List.mem_append_left _ (mv s hs)) _ (List.mem_append_left _ (mbt t ht)),hw1c _ (mvs s hs) _ (mbs t ht)⟩
 ·exact fun s hs t ht=>hw2c _ (List.mem_append_right _ (mba s hs)) _ (List.mem_append_left _ (mbt t ht))
 ·exact fun s hs t ht hne e=>hne (inj_of_nodup hw2h ht hs e)
 ·exact fun s hs=>⟨fun t ht=>Ne.symm (hw2c _ (List.mem_append_left _ (mv t ht)) _ (List.mem_append_right _ (mes s hs))),
   fun t ht=>⟨Ne.symm (hw2c _ (List.mem_append_right _ (mba t ht)) _ (List.mem_append_right _ (mes s hs))),Ne.symm (hw2i _ (mbt t ht) _ (mes s hs))⟩⟩
theorem RI.value {k : Nat} {v : Value} (h : RI W n0 T0 tB vs bs es L T w) (s : VS) (hs : s ∈ vs) (hk : s.op = k) (hP : s.P w v) :
  RI W n0 T0 tB vs bs es (L.setIfInBounds k true) (T.setIfInBounds s.slot v) w:=by
 subst hk
 obtain ⟨p1,p2,p3,p4,p5,p6,p7,p8⟩:=wellRI.parts h.wf
 refine ⟨h.wf,h.tb,h.lv,h.lb,h.le,h.eb,h.ed,by simp [h.size],fun j h1 h2=>by rw [Array.getElem?_setIfInBounds_ne (h1 s hs)]; exact h.keep j h1 h2,h.bel0,h.old,h.lext,h.ge,
  fun t ht hl=>listed_mono (h.sto t ht (set_true hl (p5 s hs t ht).2.1)),?_,?_,?_,?_⟩
 ·intro t ht hl
  by_cases he : t = s
  ·subst he
   exact ⟨v,by rw [Array.getElem?_setIfInBounds_self_of_lt (by rw [h.size]; exact p1 _ hs)],hP⟩
  ·obtain ⟨n1,n2⟩:=p3 s hs t ht he
   obtain ⟨u,h1,h2⟩:=h.val t ht (set_true hl (Ne.symm n1))
   exact ⟨u,by rw [Array.getElem?_setIfInBounds_ne (Ne.symm n2)]; exact h1,h2⟩
 ·intro t ht hl
  obtain ⟨n1,n2,n3⟩:=p5 s hs t ht
  obtain ⟨b,x,y,h1,h2,h3,h4⟩:=h.box t ht (set_true hl n1)
  exact ⟨b,x,y,by rw [Array.getElem?_setIfInBounds_ne n3]; exact h1,h2,h3,fun hh=>h4 (set_true hh n2)⟩
 ·intro t ht u hu hne hl1 hl2 b c e1 e2
  obtain ⟨n1,n2,n3⟩:=p5 s hs t ht
  obtain ⟨m1,m2,m3⟩:=p5 s hs u hu
  rw [Array.getElem?_setIfInBounds_ne n3] at e1
  rw [Array.getElem?_setIfInBounds_ne m3] at e2
  exact h.far t ht u hu hne (set_true hl1 n1) (set_true hl2 m1) b c e1 e2
 ·intro t ht
  have n1:=(p8 t ht).1 s hs
  obtain ⟨⟨x,y,h1,h2⟩,h3⟩:=h.ex t ht
  exact ⟨⟨x,y,h1,fun hh=>h2 (set_true hh (Ne.symm n1))⟩,fun hh=>h3 (set_ne hh)⟩
theorem RI.v {s : VS} (h : RI W n0 T0 tB vs bs es L T w) (hs : s ∈ vs) (hl : L[s.op]? = some true) : ∃v,T[s.slot]? = some v/\s.P w v:=h.val s hs hl
theorem RI.y {k : Nat} {v : Value} (h : RI W n0 T0 tB vs bs es L T w) {s : VS} (hs : s ∈ vs) (hP : s.P w v) (hk : s.op = k:=by rfl) : RI W n0 T0 tB vs bs es (L.setIfInBounds k true) (T.setIfInBounds s.slot v) w:=h.value s hs hk hP
theorem RI.alloc {k : Nat} {x0 y0 : Value} (h : RI W n0 T0 tB vs bs es L T w) (s : BS) (hs : s ∈ bs) (hk : s.al = k) (hL : L[k]? = some false) :
  RI W n0 T0 tB vs bs es (L.setIfInBounds k true) (T.setIfInBounds s.slot (ptr w.heap.size)) (w.alloc (.cells #[x0,y0] tB)):=by
 subst hk
 obtain ⟨p1,p2,p3,p4,p5,p6,p7,p8⟩:=wellRI.parts h.wf
 have hslot:=p2 s hs
 have hb : Below w.heap.size w (w.alloc (.cells #[x0,y0] tB)):=(Below.refl _ _).alloc (Nat.le_refl _) _
 have hx:=LExt.below hb (Nat.le_refl _)
 have hst : L[s.st]? ≠ some true:=fun hh=>by have:=h.sto s hs hh; rw [hL] at this; cases this
 have hlook : ∀t ∈ bs,L[t.al]? = some true->∀b,T[t.slot]? = some (ptr b)->b < w.heap.size:=by
  intro t ht hl b hb
  obtain ⟨b',x,y,h1,h2,h3,-⟩:=h.box t ht hl
  rw [h1] at hb
  injection hb with hb
  injection hb with hb
  injection hb with hb
  injection hb with hb
  subst hb
  exact h3.lt
 refine ⟨h.wf,h.tb,h.lv,h.lb,h.le,h.eb,h.ed,by simp [h.size],fun j h1 h2=>by rw [Array.getElem?_setIfInBounds_ne (h2 s hs)]; exact h.keep j h1 h2,h.bel0.trans (hb.mono (Nat.zero_le _)),
  fun k hk hn=>(hb.block k (Nat.lt_of_lt_of_le hk h.ge)).trans (h.old k hk hn),h.lext.trans hx,Nat.le_trans h.ge hb.size,fun t ht hl=>listed_mono (h.sto t ht (set_true hl (p6 s hs t ht))),?_,?_,?_,?_⟩
 ·intro t ht hl
  obtain ⟨n1,n2,n3⟩:=p5 t ht s hs
  obtain ⟨u,h1,h2⟩:=h.val t ht (set_true hl (Ne.symm n1))
  exact ⟨u,by rw [Array.getElem?_setIfInBounds_ne (Ne.symm n3)]; exact h1,h.lv t ht _ _ _ hx h2⟩
 ·intro t ht hl
  by_cases he : t = s
  ·subst he
   exact ⟨w.heap.size,x0,y0,by rw [Array.getElem?_setIfInBounds_self_of_lt (by rw [h.size]; exact hslot)],h.ge,Blk.new _ _ _,fun hh=>absurd (set_true hh (p6 _ hs _ hs)) hst⟩
  ·obtain ⟨n1,n2,n3⟩:=p4 s hs t ht he
   obtain ⟨b,x,y,h1,h2,h3,h4⟩:=h.box t ht (set_true hl (Ne.symm n1))
   exact ⟨b,x,y,by rw [Array.getElem?_setIfInBounds_ne (Ne.symm n2)]; exact h1,h2,h3.below hb,fun hh=>h.lb t ht _ _ _ hx (h4 (set_true hh (p6 s hs t ht)))⟩
 ·intro t ht u hu hne hl1 hl2 b c e1 e2
  by_cases he : t = s
  ·subst he
   have hu' : u ≠ t:=fun e=>hne (by rw [e])
   obtain ⟨n1,n2,-⟩:=p4 _ hs u hu hu'
   rw [Array.getElem?_setIfInBounds_self_of_lt (by rw [h.size]; exact hslot)] at e1
   rw [Array.getElem?_setIfInBounds_ne (Ne.symm n2)] at e2
   injection e1 with e1
   injection e1 with e1
   injection e1 with e1
   injection e1 with e1
   have:=hlook u hu (set_true hl2 (Ne.symm n1)) c e2
   omega
  ·obtain ⟨n1,n2,-⟩:=p4 s hs t ht he
   rw [Array.getElem?_setIfInBounds_ne (Ne.symm n2)] at e1
   by_cases he2 : u = s
   ·subst he2
    rw [Array.getElem?_setIfInBounds_self_of_lt (by rw [h.size]; exact hslot)] at e2
    injection e2 with e2
    injection e2 with e2
    injection e2 with e2
    injection e2 with e2
    have:=hlook t ht (set_true hl1 (Ne.symm n1)) b e1
    omega
   ·obtain ⟨m1,m2,-⟩:=p4 s hs u hu he2
    rw [Array.getElem?_setIfInBounds_ne (Ne.symm m2)] at e2
    exact h.far t ht u hu hne (set_true hl1 (Ne.symm n1)) (set_true hl2 (Ne.symm m1)) b c e1 e2
 ·intro t ht
  have n1:=((p8 t ht).2 s hs).1
  obtain ⟨⟨x,y,h1,h2⟩,h3⟩:=h.ex t ht
  exact ⟨⟨x,y,h1.below hb,fun hh=>h.le t ht _ _ _ hx (h2 (set_true hh (Ne.symm n1)))⟩,fun hh=>(hb.block _ h1.lt).trans (h3 (set_ne hh))⟩
theorem RI.store {k b : Nat} {x1 y1 : Value} (h : RI W n0 T0 tB vs bs es L T w) (s : BS) (hs : s ∈ bs) (hk : s.st = k) (hal : L[s.al]? = some true)
  (hb : T[s.slot]? = some (ptr b)) (hP : s.P w (.agg #[x1,y1])) :
  RI W n0 T0 tB vs bs es (L.setIfInBounds k true) T ((w.setCell ⟨b,0,none⟩ x1).setCell ⟨b,1,none⟩ y1):=by
 subst hk
 obtain ⟨p1,p2,p3,p4,p5,p6,p7,p8⟩:=wellRI.parts h.wf
 obtain ⟨b',x,y,h1,h2,h3,-⟩:=h.box s hs hal
 obtain rfl : b = b':=by
  rw [h1] at hb
  injection hb with hb
  injection hb with hb
  injection hb with hb
  injection hb with hb
  exact hb.symm
 have hx:=h3.lext2 h.tb x1 y1
 have hbel : Below n0 w ((w.setCell ⟨b,0,none⟩ x1).setCell ⟨b,1,none⟩ y1):=((Below.refl _ _).setCell h2 _).setCell h2 _
 refine ⟨h.wf,h.tb,h.lv,h.lb,h.le,h.eb,h.ed,h.size,h.keep,h.bel0.trans (hbel.mono (Nat.zero_le _)),fun k hk hn=>(hbel.block k hk).trans (h.old k hk hn),h.lext.trans hx,Nat.le_trans h.ge hbel.size,?_,?_,?_,?_,?_⟩
 ·intro t ht hl
  by_cases he : t = s
  ·subst he; exact listed_mono hal
  ·exact listed_mono (h.sto t ht (set_true hl (Ne.symm (p4 s hs t ht he).2.2)))
 ·intro t ht hl
  obtain ⟨u,e1,e2⟩:=h.val t ht (set_true hl (Ne.symm (p5 t ht s hs).2.1))
  exact ⟨u,e1,h.lv t ht _ _ _ hx e2⟩
 ·intro t ht hl
  by_cases he : t = s
  ·subst he
   exact ⟨b,x1,y1,h1,h2,h3.put2 _ _,fun _=>h.lb _ hs _ _ _ hx hP⟩
  ·obtain ⟨n1,n2,n3⟩:=p4 s hs t ht he
   obtain ⟨c,u,v,e1,e2,e3,e4⟩:=h.box t ht (set_true hl (Ne.symm (p6 t ht s hs)))
   have hne : c ≠ b:=h.far t ht s hs n1 (set_true hl (Ne.symm (p6 t ht s hs))) hal c b e1 h1
   exact ⟨c,u,v,e1,e2,(e3.far hne _ _).far hne _ _,fun hh=>h.lb t ht _ _ _ hx (e4 (set_true hh (Ne.symm n3)))⟩
 ·intro t ht u hu hne hl1 hl2
  exact h.far t ht u hu hne (set_true hl1 (Ne.symm (p6 t ht s hs))) (set_true hl2 (Ne.symm (p6 u hu s hs)))
 ·intro t ht
  have n1:=((p8 t ht).2 s hs).2
  obtain ⟨⟨x,y,e1,e2⟩,e3⟩:=h.ex t ht
  exact ⟨⟨x,y,e1.below' hbel (h.eb t ht),fun hh=>h.le t ht _ _ _ hx (e2 (set_true hh (Ne.symm n1)))⟩,fun hh=>(hbel.block _ (h.eb t ht)).trans (e3 (set_ne hh))⟩
theorem RI.cell {b o : Nat} {v : Value} (h : RI W n0 T0 tB vs bs es L T w) (hc : W.cell? ⟨b,o,none⟩ = some v) (hb : b < n0) (hn : ∀s ∈ es,s.blk ≠ b) : w.cell? ⟨b,o,none⟩ = some v:=
 (World.cell?_of_block (w:=W) (h.old b hb hn)).trans hc
theorem RI.bel (h : RI W n0 T0 tB vs bs es L T w) (B : Nat) (hB : B<=n0) (hn : ∀s ∈ es,B<=s.blk) : Below B W w:=
 ⟨h.bel0.os,h.bel0.tape,h.bel0.output,h.bel0.size,fun k hk=>h.old k (by omega) (fun s hs=>by have:=hn s hs; omega)⟩
end
abbrev E (i s : Nat) (x : Value) : VS:=⟨i,s,fun _ v=>v = x⟩
abbrev EI (i s : Nat) (z : Int) : VS:=⟨i,s,fun w v=>IntV w v z⟩
def Fin (w : World) : List VS->Array Value->Array Value->Prop
 | [],T0,T=>T = T0
 | s :: vs,T0,T=>∃v,s.P w v/\Fin w vs (T0.setIfInBounds s.slot v) T
theorem fin_of {w : World} : ∀(vs : List VS) {T0 T : Array Value},(∀j,(∀s ∈ vs,s.slot ≠ j)->T[j]? = T0[j]?)->(∀s ∈ vs,∃v,T[s.slot]? = some v/\s.P w v)->T.size = T0.size->(vs.map (·.slot)).Nodup->Fin w vs T0 T
 | [],T0,T,h,_,_,_=>Array.ext_getElem? (fun j=>h j (fun p hp=>by cases hp))
 | s :: vs,T0,T,h,hv,hs,hn=>by
  obtain ⟨v,h1,h2⟩:=hv s (by simp)
  rw [List.map_cons,List.nodup_cons] at hn
  refine ⟨v,h2,fin_of vs (fun j hj=>?_) (fun t ht=>hv t (List.mem_cons_of_mem _ ht)) (by simp [hs]) hn.2⟩
  by_cases e : s.slot = j
  ·subst e
   have hlt : s.slot < T0.size:=by rw [<-hs]; exact (Array.getElem?_eq_some_iff.1 h1).1
   rw [h1,Array.getElem?_setIfInBounds_self_of_lt hlt]
  ·rw [Array.getElem?_setIfInBounds_ne e]
   exact h j (fun t ht=>by
    rcases List.mem_cons.1 ht with rfl | ht
    ·exact e
    ·exact hj t ht)
def FinB (w : World) (n0 : Nat) (tB : TypeId) : List BS->List Nat->Array Value->Array Value->Prop
 | [],_,T0,T=>T = T0
 | b :: bs,u,T0,T=>∃c x y,n0<=c/\Blk w c tB #[x,y]/\b.P w (.agg #[x,y])/\(∀d ∈ u,d ≠ c)/\FinB w n0 tB bs (c :: u) (T0.setIfInBounds b.slot (ptr c)) T
def FinV (w : World) (n0 : Nat) (tB : TypeId) (bs : List BS) : List VS->Array Value->Array Value->Prop
 | [],T0,T=>FinB w n0 tB bs [] T0 T
 | s :: vs,T0,T=>∃v,s.P w v/\FinV w n0 tB bs vs (T0.setIfInBounds s.slot v) T
section
variable {W : World} {n0 : Nat} {T0 : Array Value} {tB : TypeId} {vs : List VS} {bs : List BS} {es : List ES} {L : Array Bool} {T : Array Value} {w w' : World}
theorem RI.k {x : Value} (h : RI W n0 T0 tB vs bs es L T w) (j : Nat) (h2 : T0[j]? = some x) (h1 : ((vs.all fun s=>!(s.slot == j)) && bs.all fun s=>!(s.slot == j)) = true) : T[j]? = some x:=by
 rw [Bool.and_eq_true] at h1
 exact (h.keep j (fun s hs e=>by have:=List.all_eq_true.1 h1.1 s hs; simp [e] at this) (fun s hs e=>by have:=List.all_eq_true.1 h1.2 s hs; simp [e] at this)).trans h2
theorem RI.q {i s : Nat} {x : Value} (h : RI W n0 T0 tB vs bs es L T w) (hm : E i s x ∈ vs) : RI W n0 T0 tB vs bs es (L.setIfInBounds i true) (T.setIfInBounds s x) w:=h.value _ hm rfl rfl
theorem RI.fin {G : Array Value->World->Prop} (hL : (vs.all fun s=>L[s.op]? == some true) = true) (h : ∀w,LExt W w->Below n0 W w->(∀k,k < n0->w.heap[k]? = W.heap[k]?)->∀T,Fin w vs T0 T->G T w) (T : Array Value) (w : World) (hI : RI W n0 T0 tB vs [] [] L T w) : G T w:=by
 refine h w hI.lext (hI.bel n0 (Nat.le_refl _) (fun s hs=>by cases hs)) (fun k hk=>hI.old k hk (fun s hs=>by cases hs)) T (fin_of vs (fun j hj=>hI.keep j hj (fun s hs=>by cases hs)) (fun s hs=>hI.val s hs ?_) hI.size ?_)
 ·have:=List.all_eq_true.1 hL s hs
  simpa using this
 ·have hw:=hI.wf
  unfold wellRI at hw
  simp only [Bool.and_eq_true,decide_eq_true_eq] at hw
  exact (List.nodup_append.1 hw.1.1).1
end
theorem IntW.uniq {w : World} {v : Value} {z z' : Int} (h : IntW w v z) (h' : IntW w v z') : z = z':=by
 obtain ⟨neg,ao,n,cap,xs,rfl,h1,-,-,h2,-,rfl⟩:=h
 obtain ⟨neg',ao',n',cap',ys,hv,k1,-,-,k2,-,rfl⟩:=h'
 injection hv with hv
 simp only [Array.mk.injEq,List.cons.injEq,Value.bool.injEq,Value.slice.injEq] at hv
 obtain ⟨rfl,⟨rfl,e,-⟩,-⟩:=hv
 have hn : xs.length = ys.length:=by rw [h1,k1]; exact e
 have : xs = ys:=by
  refine List.ext_getElem hn fun k ha hb=>?_
  obtain ⟨b,off,e1,-,hc⟩:=h2.cell ha
  obtain ⟨b',off',e1',-,hc'⟩:=k2.cell hb
  rw [e1] at e1'
  injection e1' with e1'
  injection e1' with e2 e3
  subst e2; subst e3
  rw [hc] at hc'
  injection hc' with hc'
  injection hc' with _ hc'
  have hc'' : xs.getD k 0 = ys.getD k 0:=by omega
  simpa [List.getD_eq_getElem?_getD,ha,hb] using hc''
 rw [this]
theorem intAt_ex : ∃f : World->Nat->Int,∀(w : World) (b : Nat) (x y : Value) (z : Int),Blk w b 66 #[x,y]->IntV w (.agg #[x,y]) z->f w b = z:=by
 refine ⟨fun w b=>Classical.epsilon fun z=>∃x y,Blk w b 66 #[x,y]/\IntV w (.agg #[x,y]) z,fun w b x y z h1 h2=>?_⟩
 have hs:=Classical.epsilon_spec (p:=fun z=>∃x y,Blk w b 66 #[x,y]/\IntV w (.agg #[x,y]) z) ⟨z,x,y,h1,h2⟩
 obtain ⟨x',y',k1,k2⟩:=hs
 unfold Blk at h1 k1
 rw [h1] at k1
 injection k1 with k1
 injection k1 with k1
 simp only [Array.mk.injEq,List.cons.injEq] at k1
 obtain ⟨rfl,rfl,-⟩:=k1
 exact k2.weak.uniq h2.weak
end Go.Proofs.YtjdemlfceaikgaaGreat
