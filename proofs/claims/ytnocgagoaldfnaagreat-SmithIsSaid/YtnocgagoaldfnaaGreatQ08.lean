/- Division of limbs. Division of limbs: the call. -/
import Derived.Test.YtnocgagoaldfnaaGreatQ07
set_option linter.unusedVariables false
set_option linter.unusedSimpArgs false
set_option linter.unusedSectionVars false
namespace Go.Proofs.YtnocgagoaldfnaaGreat
open Go.RowKit

/-! ### plain -/
theorem nat_split (xs : List Nat) (k : Nat) (h : k ≤ xs.length) : nat xs = nat (xs.take k) + B32 ^ k * nat (xs.drop k) := by
  have := nat_append (xs.take k) (xs.drop k)
  rw [List.take_append_drop, List.length_take, Nat.min_eq_left h] at this
  exact this
theorem put_drop {us ms : List Nat} {off : Nat} (h : off ≤ us.length) : (put us off ms).drop off = ms ++ us.drop (off + ms.length) := by
  unfold put
  rw [List.append_assoc, List.drop_append, List.drop_eq_nil_of_le (by simp; omega)]
  simp [Nat.min_eq_left h]
theorem put_take {us ms : List Nat} {off : Nat} (h : off ≤ us.length) : (put us off ms).take off = us.take off := by
  unfold put
  rw [List.append_assoc, List.take_append_of_le_length (by simp; omega), List.take_take, Nat.min_self]

theorem div_arith (a V p B t q r : Nat) : a * V * (p * B) + (t + p * (q * V + r)) = (q + B * a) * V * p + (t + p * r) := by
  simp only [Nat.add_mul, Nat.mul_add]
  have e1 : a * V * (p * B) = B * a * V * p := by simp only [Nat.mul_assoc, Nat.mul_comm, Nat.mul_left_comm]
  have e2 : p * (q * V) = q * V * p := Nat.mul_comm _ _
  omega
/-- The state of a long division behind the digits from k on. -/
structure DivSt (X V : Nat) (n k : Nat) (ul qs : List Nat) : Prop where
  lim : Limbs ul
  qlim : Limbs qs
  eq : X = nat (qs.drop k) * V * B32 ^ k + nat ul
  lt : nat (ul.drop k) < V

theorem DivSt.zero {X V n k : Nat} {ul qs : List Nat} (h : DivSt X V n k ul qs) (hV : V < B32 ^ n) (hl : k + n ≤ ul.length) : nat (ul.drop (k + n)) = 0 := by
  have h1 := nat_split (ul.drop k) n (by simp; omega)
  rw [List.drop_drop] at h1
  have h2 := h.lt
  rcases Nat.eq_zero_or_pos (nat (ul.drop (k + n))) with h0 | h0
  · exact h0
  · have := Nat.le_mul_of_pos_right (B32 ^ n) h0; omega
theorem DivSt.seg_eq {X V n j : Nat} {ul qs : List Nat} (h : DivSt X V n (j + 1) ul qs) (hV : V < B32 ^ n) (hl : j + 1 + n ≤ ul.length) : nat (seg ul j (n + 1)) = nat (ul.drop j) := by
  have h1 := nat_split (ul.drop j) (n + 1) (by simp; omega)
  rw [List.drop_drop, show j + (n + 1) = j + 1 + n by omega, h.zero hV hl] at h1
  unfold seg
  omega
theorem DivSt.small {X V n j : Nat} {ul qs : List Nat} (h : DivSt X V n (j + 1) ul qs) (hl : j < ul.length) : nat (ul.drop j) < V * 4294967296 := by
  have h1 := nat_drop_get ul j hl
  have h2 := h.lim.get j
  have h3 := h.lt
  rw [B32_eq] at h1 h2
  rw [h1]
  clear h1 h
  generalize nat (List.drop (j + 1) ul) = d at *
  generalize ul.getD j 0 = x at *
  omega
theorem DivSt.step {X V n j q : Nat} {ul qs rs : List Nat} (h : DivSt X V n (j + 1) ul qs) (hV : V < B32 ^ n) (hl : j + 1 + n ≤ ul.length) (hq : j < qs.length) (hqB : q < 4294967296)
    (hrl : rs.length = n + 1) (hrs : Limbs rs) (heq : nat (seg ul j (n + 1)) = q * V + nat rs) (hlt : nat rs < V) : DivSt X V n j (put ul j rs) (qs.set j q) := by
  have hz := h.zero hV hl
  have hd : nat ((put ul j rs).drop j) = nat rs := by
    rw [put_drop (by omega), nat_append, hrl, show j + (n + 1) = j + 1 + n by omega, hz, Nat.mul_zero, Nat.add_zero]
  refine ⟨put_limbs h.lim hrs, h.qlim.set _ _ hqB, ?_, by rw [hd]; exact hlt⟩
  have h1 := nat_split ul j (by omega)
  have h2 := nat_split (put ul j rs) j (by rw [put_length (by omega)]; omega)
  rw [hd, put_take (by omega)] at h2
  rw [← h.seg_eq hV hl, heq] at h1
  have h3 := nat_drop_get (qs.set j q) j (by simpa using hq)
  rw [drop_set_succ, List.getD_eq_getElem?_getD, List.getElem?_set_self hq] at h3
  simp only [Option.getD_some] at h3
  rw [h3, h2, h.eq, h1, Nat.pow_succ]
  exact div_arith _ _ _ _ _ _ _

/-- One limb shifted back. -/
theorem unshift_limb {a b s : Nat} (hs : s < 32) (ha : a < 4294967296) (hb : b < 4294967296) :
    ((a * 4294967296 + b) / 2 ^ s % 4294967296) * 2 ^ s + b % 2 ^ s = b + a % 2 ^ s * 4294967296 := by
  obtain ⟨t, ht⟩ : ∃ t, 2 ^ s * t = 4294967296 := ⟨2 ^ (32 - s), by rw [← Nat.pow_add, show s + (32 - s) = 32 by omega]⟩
  have hp : 0 < 2 ^ s := Nat.pow_pos (by omega)
  generalize 2 ^ s = p at *
  have hb1 := Nat.div_add_mod b p
  have ha1 := Nat.div_add_mod a p
  have hbp := Nat.mod_lt b hp
  have hap := Nat.mod_lt a hp
  generalize b / p = bq at *
  generalize b % p = br at *
  generalize a / p = aq at *
  generalize a % p = ar at *
  have e1 : (a * 4294967296 + b) / p = a * t + bq := by
    rw [← ht, ← hb1, ← Nat.mul_assoc, Nat.mul_comm a p, Nat.mul_assoc, ← Nat.add_assoc, ← Nat.mul_add]
    rw [Nat.mul_add_div hp, Nat.div_eq_of_lt hbp, Nat.add_zero]
  have hbq : bq < t := by
    rcases Nat.lt_or_ge bq t with h | h
    · exact h
    · have := Nat.mul_le_mul_left p h; omega
  have e2 : a * t + bq = ar * t + bq + 4294967296 * aq := by
    rw [← ht, ← ha1, Nat.add_mul, Nat.mul_assoc p t, Nat.mul_assoc, Nat.mul_comm t aq]; omega
  have h4 : ar * t + bq < 4294967296 := by
    have h5 : (ar + 1) * t ≤ p * t := Nat.mul_le_mul_right t hap
    rw [Nat.add_mul, Nat.one_mul, ht] at h5
    omega
  rw [e1, e2, Nat.add_mul_mod_self_left, Nat.mod_eq_of_lt h4, Nat.add_mul, Nat.mul_assoc, Nat.mul_comm t p, ht, Nat.mul_comm bq p]
  omega
theorem unshift_step {ul rs : List Nat} {k s v a b : Nat} (hs : s < 32) (ha : a < 4294967296) (hb : b < 4294967296) (hua : ul.getD (k + 1) 0 = a) (hub : ul.getD k 0 = b) (hk : k < rs.length)
    (hv : v = (a * 4294967296 + b) / 2 ^ s % 4294967296) (h : nat (rs.take k) * 2 ^ s = nat (ul.take k) + (ul.getD k 0 % 2 ^ s) * B32 ^ k) :
    nat ((rs.set k v).take (k + 1)) * 2 ^ s = nat (ul.take (k + 1)) + (ul.getD (k + 1) 0 % 2 ^ s) * B32 ^ (k + 1) := by
  have hl := unshift_limb hs ha hb
  rw [← hv] at hl
  rw [nat_take_set _ _ _ hk, nat_take_succ, Nat.add_mul, h, hua, hub, Nat.pow_succ, B32_eq]
  generalize 2 ^ s = p at *
  generalize 4294967296 ^ k = P
  have e := congrArg (· * P) hl
  simp only [Nat.add_mul] at e
  have e1 : v * P * p = v * p * P := by rw [Nat.mul_assoc, Nat.mul_comm P, ← Nat.mul_assoc]
  have e2 : a % p * (P * 4294967296) = a % p * 4294967296 * P := by rw [Nat.mul_assoc, Nat.mul_comm P]
  omega

theorem top_high {vs : List Nat} {m t : Nat} (hl : Limbs vs) (hlen : vs.length = m + 1) (h : t * B32 ^ m ≤ nat vs) : t ≤ vs.getD m 0 := by
  have h1 := nat_take_succ vs m
  rw [nat_take_all vs (by omega)] at h1
  have h2 := nat_lt (hl.take m)
  rw [List.length_take, Nat.min_eq_left (by omega)] at h2
  rcases Nat.lt_or_ge (vs.getD m 0) t with h3 | h3
  · exfalso
    have h4 := Nat.mul_le_mul_right (B32 ^ m) h3
    rw [Nat.succ_mul] at h4
    omega
  · exact h3
theorem nat_top {ys : List Nat} {m d : Nat} (hlen : ys.length = m + 1) (hd : ys.getD m 0 = d) : d * B32 ^ m ≤ nat ys := by
  have h1 := nat_take_succ ys m
  rw [nat_take_all ys (by omega), hd] at h1
  omega
theorem drop_lt {us : List Nat} {k T : Nat} (hk : k ≤ us.length) (h : nat us < B32 ^ k * T) : nat (us.drop k) < T := by
  have h1 := nat_split us k hk
  have h2 : B32 ^ k * nat (us.drop k) < B32 ^ k * T := by omega
  exact Nat.lt_of_mul_lt_mul_left h2

theorem low_mod {ul : List Nat} {s : Nat} (hs : s < 32) (hl : 0 < ul.length) : nat ul % 2 ^ s = ul.getD 0 0 % 2 ^ s := by
  obtain ⟨t, ht⟩ : ∃ t, 2 ^ s * t = 4294967296 := ⟨2 ^ (32 - s), by rw [← Nat.pow_add, show s + (32 - s) = 32 by omega]⟩
  have h1 := nat_drop_get ul 0 hl
  rw [List.drop_zero, B32_eq, ← ht, Nat.mul_assoc] at h1
  rw [h1, Nat.add_mul_mod_self_left]

set_option maxHeartbeats 400000 in
theorem word_any (ao : Option Addr) (n cap : Nat) (xs : List Nat) (w : World) (hn : xs.length = n) (hn2 : n ≤ 2) (hx : LimbsAt w ao xs) :
    Calls Tryz.prog 141 #[.slice ao n cap] w fun e w' => e = .returned (.int .u64 (nat xs : Nat)) ∧ w = w' := by
  match n, xs, hn with
  | 0, [], _ =>
    go_enter Tryz.func141, Tryz.ntmps141
    go_wp2
    refine wp_loop_rounds 1 ?_; rw [rounds_succ]
    go_wp2
    go_ret
    exact ⟨rfl, rfl⟩
  | 1, [a], _ =>
    obtain ⟨b, off, x, rfl, hbw, hx32, HX, hck⟩ := hx.limb (k := 0) (by simp)
    have hxa : x = a := HX.out.symm
    subst hxa
    rw [Nat.add_zero] at hck
    have e1 : bits BinOp.or IntKind.u64 0 (x : Int) = (x : Int) := by have := u64_or_nat 0 x (by omega) (by omega); simpa using this
    have E : Hid (nat [x] = x) := by show _ = _; simp [nat_cons]
    go_enter Tryz.func141, Tryz.ntmps141
    go_wp2
    refine wp_loop_rounds 2 ?_; rw [rounds_succ]
    go_wp2
    rw [rounds_succ]
    go_wp2
    go_ret
    exact ⟨by rw [E.out]; rfl, rfl⟩
  | 2, [a, b], _ =>
    obtain ⟨bb, off, hbo, hbw, hcs⟩ := hx.cells (by simp)
    subst hbo
    have c0 := hcs 0 (by simp)
    have c1 := hcs 1 (by simp)
    have ha : a < 4294967296 := hx.1 a (by simp)
    have hb : b < 4294967296 := hx.1 b (by simp)
    have e1 : bits BinOp.or IntKind.u64 0 (a : Int) = (a : Int) := by have := u64_or_nat 0 a (by omega) (by omega); simpa using this
    have e2 : bits BinOp.or IntKind.u64 (a : Int) ((b : Int) * 4294967296) = ((a + b * 4294967296 : Nat) : Int) := by
      have := u64_or_nat a (b * 4294967296) (by omega) (by omega)
      rw [Nat.or_comm, or_shift b a ha, Nat.add_comm] at this
      rw [← this]; simp
    have E : Hid (nat [a, b] = a + b * 4294967296) := by show _ = _; simp [nat_cons, B32_eq]; omega
    clear hcs
    simp at c0 c1
    go_enter Tryz.func141, Tryz.ntmps141
    go_wp2
    refine wp_loop_rounds 3 ?_; rw [rounds_succ]
    go_wp2
    rw [rounds_succ]
    go_wp2
    rw [rounds_succ]
    go_wp2
    go_ret
    exact ⟨by rw [E.out]; rfl, rfl⟩

/-- What a division of limbs leaves. -/
def RetDiv (w : World) (a b : Nat) (e : Ending) (w' : World) : Prop :=
  ∃ qo ql qc qs ro rl rc rs, e = .returned (.tuple #[.slice qo ql qc, .slice ro rl rc]) ∧ qs.length = ql ∧ ql ≤ qc ∧ qc ≤ 9223372036854775807 ∧ LimbsAt w' qo qs ∧
    rs.length = rl ∧ rl ≤ rc ∧ rc ≤ 9223372036854775807 ∧ LimbsAt w' ro rs ∧ a = nat qs * b + nat rs ∧ nat rs < b ∧ Below w.heap.size w w'

section
variable (ao1 ao2 : Option Addr) (n1 cap1 n2 cap2 : Nat) (xs ys : List Nat) (w : World) (hn1 : xs.length = n1) (hn2 : ys.length = n2) (hl1 : n1 ≤ cap1) (hl2 : n2 ≤ cap2)
    (hc1 : cap1 ≤ 9223372036854775807) (hc2 : cap2 ≤ 9223372036854775807) (hb1 : n1 ≤ 2 * LIM) (hb2 : n2 ≤ 2 * LIM) (hx1 : LimbsAt w ao1 xs) (hx2 : LimbsAt w ao2 ys) (hN1 : Normal xs) (hN2 : Normal ys) (hy : 0 < nat ys)
include hn1 hn2 hl1 hl2 hc1 hc2 hb1 hb2 hx1 hx2 hN1 hN2 hy

set_option maxHeartbeats 400000 in
theorem divide_less (hlt : nat xs < nat ys) : Calls Tryz.prog 130 #[.slice ao1 n1 cap1, .slice ao2 n2 cap2] w (RetDiv w (nat xs) (nat ys)) := by
  have hcmp := fun W h1 h2 => compare_any ao1 ao2 n1 cap1 n2 cap2 xs ys W hn1 hn2 hl1 hl2 hc1 hc2 h1 h2 hN1 hN2
  rw [cmpI_lt (by omega)] at hcmp
  have HN1 := Lib.hid hn1
  clear hn1 hn2
  go_enter Tryz.func130, Tryz.ntmps130
  go_wp2_with (go_at_call 128; refine (hcmp _ hx1 hx2).mono ?_; rintro e w' ⟨rfl, nd, rfl⟩)
  refine (cloneU_any ao1 n1 cap1 xs _ HN1.out (by omega) (hx1.ext (lx (drN _ _)))).mono ?_
  rintro e w2 ⟨ro, rl, rc, rfl, h1, h2, h3, h4, hb⟩
  go_wp2_with fail
  go_ret2
  exact ⟨_, _, _, [], _, _, _, xs, rfl, rfl, by omega, by omega, LimbsAt.nil _ _, h1, h2, h3, h4, by simp, hlt, nx (drN _ _) hb⟩

set_option maxHeartbeats 1000000 in
theorem divide_two (hge : nat ys ≤ nat xs) (h2 : n1 ≤ 2) : Calls Tryz.prog 130 #[.slice ao1 n1 cap1, .slice ao2 n2 cap2] w (RetDiv w (nat xs) (nat ys)) := by
  have hn12 : n2 ≤ n1 := by rw [← hn1, ← hn2]; exact nat_length hx1.1 hN2 hge
  have hcmp := fun W h1 h2 => compare_any ao1 ao2 n1 cap1 n2 cap2 xs ys W hn1 hn2 hl1 hl2 hc1 hc2 h1 h2 hN1 hN2
  obtain ⟨cc, hcc, hcc0⟩ : ∃ cc : Int, cmpI (nat xs) (nat ys) = cc ∧ 0 ≤ cc := ⟨_, rfl, cmpI_nonneg (by omega)⟩
  rw [hcc] at hcmp
  clear hcc
  have hw1 := fun W h => word_any ao1 n1 cap1 xs W hn1 h2 h
  have hw2 := fun W h => word_any ao2 n2 cap2 ys W hn2 (by omega) h
  have hu : nat xs < 18446744073709551616 := by
    have h3 := nat_lt hx1.1
    have h4 := pow_mono (show xs.length ≤ 2 by omega)
    rw [B32_eq] at h4
    have h5 : (4294967296 : Nat) ^ 2 = 18446744073709551616 := by decide
    rw [h5] at h4
    rw [B32_eq] at h3
    omega
  have hv : nat ys < 18446744073709551616 := by omega
  obtain ⟨a, ha⟩ : ∃ a, nat xs = a := ⟨_, rfl⟩
  obtain ⟨b, hb⟩ : ∃ b, nat ys = b := ⟨_, rfl⟩
  rw [ha] at hw1 hu hge ⊢
  rw [hb] at hw2 hv hge hy ⊢
  clear hn1 hn2 ha hb
  have hql := limbs_any (a / b) 
  have hrl := limbs_any (a % b)
  have hqb : a / b < 18446744073709551616 := Nat.lt_of_le_of_lt (Nat.div_le_self _ _) hu
  have hrb : a % b < b := Nat.mod_lt _ hy
  have eq1 : (a : Int) / (b : Int) = ((a / b : Nat) : Int) := by simp
  have eq2 : (a : Int) % (b : Int) = ((a % b : Nat) : Int) := by simp
  have eq3 : IntKind.u64.wrap ((a : Int) / (b : Int)) = ((a / b : Nat) : Int) := by rw [eq1, IntKind.wrap_u64]; generalize a / b = t at *; omega
  have EQM : Hid (a = a / b * b + a % b) := by show _ = _; rw [Nat.mul_comm]; exact (Nat.div_add_mod a b).symm
  obtain ⟨q, hq⟩ : ∃ q, a / b = q := ⟨_, rfl⟩
  obtain ⟨r, hr⟩ : ∃ r, a % b = r := ⟨_, rfl⟩
  rw [hq] at hql hqb eq1 eq3 EQM
  rw [hr] at hrl hrb eq2 EQM
  clear hq hr
  have eq4 : (a : Int).tdiv (b : Int) = (q : Int) := by rw [Int.tdiv_eq_ediv_of_nonneg (by omega)]; exact eq1
  have eq5 : (a : Int).tmod (b : Int) = (r : Int) := by rw [Int.tmod_eq_emod_of_nonneg (by omega)]; exact eq2
  have eq6 : IntKind.u64.wrap (q : Int) = (q : Int) := by rw [IntKind.wrap_u64]; omega
  have eq7 : IntKind.u64.wrap (r : Int) = (r : Int) := by rw [IntKind.wrap_u64]; omega
  have hbn : ¬ b = 0 := by omega
  have hb0 : ((b : Int) == 0) = false := by simp; omega
  go_enter Tryz.func130, Tryz.ntmps130
  go_wp2_with (first
    | (go_at_call 128; refine (hcmp _ hx1 hx2).mono ?_; rintro e w' ⟨rfl, nd, rfl⟩)
    | (go_at_call_of 141 ao1; refine (hw1 _ (hx1.ext (lx (drN _ _)))).mono ?_; rintro e w' ⟨rfl, rfl⟩)
    | (go_at_call_of 141 ao2; refine (hw2 _ (hx2.ext (lx (drN _ _)))).mono ?_; rintro e w' ⟨rfl, rfl⟩))
  go_region_held3 (fun _ => True) (exact trivial)
    (first
      | (go_at_call_of 91 q; refine (hql _ hqb).mono ?_; rintro e w1 ⟨qo, ql, qc, qs, rfl, p1, p2, p3, p4, p5, p6⟩)
      | (go_at_call_of 91 r; refine (hrl _ (by omega)).mono ?_; rintro e w2 ⟨ro, rl, rc, rs, rfl, s1, s2, s3, s4, s5, s6⟩))
  go_wp2_with fail
  go_ret2
  exact ⟨qo, ql, qc, qs, ro, rl, rc, rs, rfl, p1, p2, p3, p4.ext (lx s6), s1, s2, s3, s4, by rw [p5, s5]; exact EQM.out, by rw [s5]; exact hrb, nx (nx (nx (drN _ _) (dr _)) p6) s6⟩

set_option maxHeartbeats 1000000 in
theorem divide_short (hge : nat ys ≤ nat xs) (h2 : 2 < n1) (h1 : n2 = 1) : Calls Tryz.prog 130 #[.slice ao1 n1 cap1, .slice ao2 n2 cap2] w (RetDiv w (nat xs) (nat ys)) := by
  have hcmp := fun W h1 h2 => compare_any ao1 ao2 n1 cap1 n2 cap2 xs ys W hn1 hn2 hl1 hl2 hc1 hc2 h1 h2 hN1 hN2
  obtain ⟨cc, hcc, hcc0⟩ : ∃ cc : Int, cmpI (nat xs) (nat ys) = cc ∧ 0 ≤ cc := ⟨_, rfl, cmpI_nonneg (by omega)⟩
  rw [hcc] at hcmp
  clear hcc
  subst h1
  obtain ⟨b, off, d, rfl, hbw, hd32, HD, hck⟩ := hx2.limb (k := 0) (by omega)
  rw [Nat.add_zero] at hck
  have hyd : nat ys = d := by
    match ys, hn2, HD.out with
    | [y], _, h => simp at h; simp [nat_cons, h]
  have hsh := fun W h => short_any ao1 n1 cap1 xs d W hn1 (by omega) h (by omega) hd32
  rw [hyd] at hge hy ⊢
  have HN1 := Lib.hid hn1
  clear hn1 hn2 hyd
  go_enter Tryz.func130, Tryz.ntmps130
  go_wp2_with (first
    | (go_at_call 128; refine (hcmp _ hx1 hx2).mono ?_; rintro e w' ⟨rfl, nd, rfl⟩)
    | (go_at_call 142; refine (hsh _ (hx1.ext (lx (drN _ _)))).mono ?_; rintro e w1 ⟨g, qs, r, rfl, p1, p2, p3, p4, p5, p6⟩))
  go_ret2
  have hB : Below w.heap.size w w1 := nx (drN _ _) p6
  have hB2 : Below w1.heap.size w1 (w1.alloc (.cells #[.int .u32 (r : Nat)] tU)) := (Below.refl _ _).alloc (Nat.le_refl _) _
  exact ⟨_, _, _, qs, _, _, _, [r], rfl, p3, Nat.le_refl _, by omega, (p1.at_ p2).ext (lx hB2), rfl, Nat.le_refl _, by omega, LimbsAt.one w1 r (by omega) _ rfl, by simp [nat_cons]; exact p5, by simp [nat_cons]; exact p4, nx hB hB2⟩
end

end Go.Proofs.YtnocgagoaldfnaaGreat
