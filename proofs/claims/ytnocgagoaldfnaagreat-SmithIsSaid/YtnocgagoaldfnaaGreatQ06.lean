/- The plain arithmetic of one digit of a long division. -/
import Derived.Test.YtnocgagoaldfnaaGreatQ01
set_option linter.unusedVariables false
set_option linter.unusedSimpArgs false
set_option linter.unusedSectionVars false
namespace Go.Proofs.YtnocgagoaldfnaaGreat

/-- The k limbs from 'off' on. -/
def seg (us : List Nat) (off k : Nat) : List Nat := (us.drop off).take k
theorem seg_length {us : List Nat} {off k : Nat} (h : off + k ≤ us.length) : (seg us off k).length = k := by unfold seg; simp; omega
theorem seg_succ {us : List Nat} {off k : Nat} (h : off + k < us.length) : seg us off (k + 1) = seg us off k ++ [us.getD (off + k) 0] := by
  unfold seg
  rw [take_succ_getD _ _ (by simp; omega)]
  simp [List.getD_eq_getElem?_getD, List.getElem?_drop]
theorem nat_seg_succ {us : List Nat} {off k : Nat} (h : off + k < us.length) : nat (seg us off (k + 1)) = nat (seg us off k) + us.getD (off + k) 0 * B32 ^ k := by
  rw [seg_succ h, nat_snoc, seg_length (by omega), Nat.mul_comm]
theorem Limbs.drop {xs : List Nat} (h : Limbs xs) (k : Nat) : Limbs (xs.drop k) := fun x hx => h x (List.mem_of_mem_drop hx)
theorem Limbs.seg {xs : List Nat} (h : Limbs xs) (off k : Nat) : Limbs (seg xs off k) := (h.drop off).take k

/-- The list with the k limbs from 'off' on replaced. -/
def put (us : List Nat) (off : Nat) (ms : List Nat) : List Nat := us.take off ++ ms ++ us.drop (off + ms.length)
theorem put_length {us ms : List Nat} {off : Nat} (h : off + ms.length ≤ us.length) : (put us off ms).length = us.length := by unfold put; simp; omega
theorem put_nil (us : List Nat) (off : Nat) : put us off [] = us := by unfold put; simp
theorem put_set {us ms : List Nat} {off v : Nat} (h : off + ms.length < us.length) : (put us off ms).set (off + ms.length) v = put us off (ms ++ [v]) := by
  unfold put
  have h1 : (us.take off ++ ms).length = off + ms.length := by simp; omega
  rw [List.set_append_right _ _ (by rw [h1]; omega), h1, Nat.sub_self, List.drop_eq_getElem_cons h]
  simp [Nat.add_assoc]
theorem put_getD {us ms : List Nat} {off k : Nat} (h : off + ms.length ≤ us.length) (hk : ms.length ≤ k) : (put us off ms).getD (off + k) 0 = us.getD (off + k) 0 := by
  unfold put
  have h1 : (us.take off ++ ms).length = off + ms.length := by simp; omega
  simp only [List.getD_eq_getElem?_getD]
  rw [List.getElem?_append_right (by rw [h1]; omega), h1, List.getElem?_drop]
  congr 2; omega
theorem put_getD_in {us ms : List Nat} {off k : Nat} (h : off + ms.length ≤ us.length) (hk : k < ms.length) : (put us off ms).getD (off + k) 0 = ms.getD k 0 := by
  unfold put
  have h2 : (us.take off).length = off := by simp; omega
  simp only [List.getD_eq_getElem?_getD]
  rw [List.getElem?_append_left (by simp; omega), List.getElem?_append_right (by rw [h2]; omega), h2]
  congr 2; omega
theorem put_limbs {us ms : List Nat} {off : Nat} (h : Limbs us) (hm : Limbs ms) : Limbs (put us off ms) := ((h.take off).append hm).append (h.drop _)
theorem put_set_in {us ms : List Nat} {off k v : Nat} (h : off + ms.length ≤ us.length) (hk : k < ms.length) : (put us off ms).set (off + k) v = put us off (ms.set k v) := by
  unfold put
  have h2 : (us.take off).length = off := by simp; omega
  rw [List.set_append_left _ _ (by simp; omega), List.set_append_right _ _ (by rw [h2]; omega), h2, Nat.add_sub_cancel_left]
  simp

/-- The shape of a number by its two highest limbs. -/
theorem nat_top2 {vs : List Nat} {n : Nat} (hv : Limbs vs) (hl : vs.length = n + 2) :
    ∃ l, l < B32 ^ n ∧ nat vs = (vs.getD (n + 1) 0 * B32 + vs.getD n 0) * B32 ^ n + l := by
  refine ⟨nat (vs.take n), ?_, ?_⟩
  · have := nat_lt (hv.take n); rwa [List.length_take, Nat.min_eq_left (by omega)] at this
  · have h1 := nat_take_succ vs (n + 1)
    have h2 := nat_take_succ vs n
    rw [nat_take_all vs (by omega), h2, Nat.pow_succ] at h1
    rw [h1, Nat.add_mul, Nat.mul_assoc, Nat.mul_comm B32 (B32 ^ n)]
    omega
theorem nat_top3 {us : List Nat} {n : Nat} (hv : Limbs us) (hl : us.length = n + 3) :
    ∃ l, l < B32 ^ n ∧ nat us = ((us.getD (n + 2) 0 * B32 + us.getD (n + 1) 0) * B32 + us.getD n 0) * B32 ^ n + l := by
  refine ⟨nat (us.take n), ?_, ?_⟩
  · have := nat_lt (hv.take n); rwa [List.length_take, Nat.min_eq_left (by omega)] at this
  · have h1 := nat_take_succ us (n + 2)
    have h2 := nat_take_succ us (n + 1)
    have h3 := nat_take_succ us n
    rw [nat_take_all us (by omega), h2, h3] at h1
    rw [h1, show B32 ^ (n + 2) = B32 * (B32 * B32 ^ n) by rw [Nat.pow_succ, Nat.pow_succ, Nat.mul_comm, Nat.mul_comm (B32 ^ n)], show B32 ^ (n + 1) = B32 * B32 ^ n by rw [Nat.pow_succ, Nat.mul_comm]]
    generalize B32 ^ n = P
    simp only [Nat.add_mul, Nat.mul_assoc]
    omega

theorem mul_rot (t B p : Nat) : t * (B * p) = t * p * B := by rw [Nat.mul_comm B p, ← Nat.mul_assoc]
section
variable {U V Q h v2 u2 top p Ul Vl : Nat} (hU : U = (top * 4294967296 + u2) * p + Ul) (hV : V = (h * 4294967296 + v2) * p + Vl) (hp : 0 < p) (hUl : Ul < p) (hVl : Vl < p)
  (hu2 : u2 < 4294967296) (hv2 : v2 < 4294967296) (hh : 2147483648 ≤ h) (hh2 : h < 4294967296) (hQ : Q * V ≤ U) (hQB : Q < 4294967296) (hUV : U < V * 4294967296)
include hU hV hp hUl hVl hu2 hv2 hh hh2 hQ hQB hUV

omit hUl hu2 hh hh2 hQ hQB hUV in
theorem kn_ge {q r : Nat} (hqr : q * h + r = top) (hb : r * 4294967296 + u2 < q * v2) (hUl : Ul < p) : U < q * V := by
  have h1 : top * 4294967296 + u2 + 1 ≤ q * (h * 4294967296 + v2) := by
    rw [← hqr, Nat.mul_add, Nat.add_mul, Nat.mul_assoc]; omega
  have h2 := Nat.mul_le_mul_right p h1
  rw [hU, hV, Nat.mul_add, ← Nat.mul_assoc]
  rw [Nat.add_mul _ 1 p] at h2
  omega
/-- The estimate is not below the digit. -/
theorem kn_dec {q r : Nat} (hqr : q * h + r = top) (hq : Q ≤ q) (hb : q > 4294967295 ∨ r * 4294967296 + u2 < q * v2) : Q ≤ q - 1 := by
  rcases hb with hb | hb
  · omega
  · have h1 := kn_ge hU hV hp hVl hv2 hqr hb hUl
    rcases Nat.lt_or_ge Q q with h2 | h2
    · omega
    · have := Nat.mul_le_mul_right V h2; omega
theorem kn_init : Q ≤ top / h := by
  rw [Nat.le_div_iff_mul_le (by omega)]
  rcases Nat.lt_or_ge top (Q * h) with h1 | h1
  · exfalso
    have h2 : (top + 1) * (4294967296 * p) ≤ Q * h * (4294967296 * p) := Nat.mul_le_mul_right _ h1
    have h3 : Q * h * (4294967296 * p) ≤ Q * V := by
      rw [hV, Nat.mul_assoc]
      refine Nat.mul_le_mul_left _ ?_
      rw [Nat.add_mul, ← Nat.mul_assoc]; omega
    have h4 : U < (top + 1) * (4294967296 * p) := by
      rw [hU, Nat.add_mul, Nat.add_mul, ← Nat.mul_assoc]
      have : (u2 + 1) * p ≤ 4294967296 * p := Nat.mul_le_mul_right _ hu2
      rw [Nat.add_mul] at this
      omega
    omega
  · exact h1
set_option maxRecDepth 20000 in
theorem kn_top : top < (h + 1) * 4294967296 := by
  rcases Nat.lt_or_ge top ((h + 1) * 4294967296) with h1 | h1
  · exact h1
  · exfalso
    have h2 : V < (h + 1) * 4294967296 * p := by
      rw [hV]
      have : (h * 4294967296 + v2 + 1) * p ≤ (h + 1) * 4294967296 * p := Nat.mul_le_mul_right _ (by omega)
      rw [Nat.add_mul _ 1] at this
      omega
    have h3 := Nat.mul_le_mul_right (4294967296 * p) h1
    have h4 : top * (4294967296 * p) ≤ U := by rw [hU, Nat.add_mul, ← Nat.mul_assoc, Nat.add_assoc]; exact Nat.le_add_right _ _
    rw [mul_rot] at h3
    have h5 := Nat.mul_le_mul_right 4294967296 (Nat.le_of_lt h2)
    exact absurd (Nat.lt_of_lt_of_le hUV (Nat.le_trans h5 (Nat.le_trans h3 h4))) (Nat.lt_irrefl _)
theorem kn_first : top / h ≤ 4294967297 := by
  have h1 := kn_top hU hV hp hUl hVl hu2 hv2 hh hh2 hQ hQB hUV
  have : top / h < 4294967298 := by
    rw [Nat.div_lt_iff_lt_mul (by omega)]
    omega
  omega
/-- Out of the loop the estimate is the digit or one more. -/
theorem kn_le {q r : Nat} (hqr : q * h + r = top) (hqB : q < 4294967296) (hb : q * v2 ≤ r * 4294967296 + u2) : q ≤ Q + 1 ∨ q * V < U + V := by
  right
  have h1 : q * (h * 4294967296 + v2) ≤ top * 4294967296 + u2 := by
    rw [← hqr, Nat.mul_add, Nat.add_mul, Nat.mul_assoc]; omega
  have h2 := Nat.mul_le_mul_right p h1
  rw [hV, Nat.mul_add, ← Nat.mul_assoc, hU]
  have h3 : q * Vl ≤ 4294967295 * p := Nat.mul_le_mul (by omega) (by omega)
  have h4 : 4294967296 * p ≤ h * 4294967296 * p := Nat.mul_le_mul_right _ (by omega)
  rw [Nat.add_mul (h * 4294967296)]
  omega
theorem kn_out2 {q r : Nat} (hqr : q * h + r = top) (hr : 4294967295 < r) : q < 4294967296 ∧ q * v2 ≤ r * 4294967296 + u2 := by
  have h1 := kn_top hU hV hp hUl hVl hu2 hv2 hh hh2 hQ hQB hUV
  have h2 : q < 4294967296 := by
    rcases Nat.lt_or_ge q 4294967296 with h3 | h3
    · exact h3
    · have := Nat.mul_le_mul_right h h3; omega
  refine ⟨h2, ?_⟩
  have h3 : q * v2 ≤ 4294967296 * 4294967296 := Nat.mul_le_mul (by omega) (by omega)
  omega
end

theorem msub_step {us ms vs : List Nat} {off q b c x e v b' c' : Nat} (h : nat ms + q * nat (vs.take ms.length) = nat (seg us off ms.length) + (b + c) * B32 ^ ms.length) (hk : off + ms.length < us.length)
    (hx : us.getD (off + ms.length) 0 = x) (he : vs.getD ms.length 0 = e) (hv : v + (c + q * e) + b = x + (b' + c') * 4294967296) :
    nat (ms ++ [v]) + q * nat (vs.take (ms.length + 1)) = nat (seg us off (ms.length + 1)) + (b' + c') * B32 ^ (ms.length + 1) := by
  rw [nat_snoc, nat_seg_succ hk, nat_take_succ, hx, he, Nat.pow_succ, B32_eq, Nat.mul_add, ← Nat.mul_assoc q]
  rw [B32_eq] at h
  generalize 4294967296 ^ ms.length = p at *
  have e1 : (v + (c + q * e) + b) * p = (x + (b' + c') * 4294967296) * p := by rw [hv]
  have e2 : (b' + c') * (p * 4294967296) = (b' + c') * 4294967296 * p := by rw [Nat.mul_assoc, Nat.mul_comm p]
  rw [e2, Nat.mul_comm p v]
  simp only [Nat.add_mul] at *
  omega

theorem addback_step {ms vs rr : List Nat} {c x e : Nat} (h : nat rr + c * B32 ^ rr.length = nat (ms.take rr.length) + nat (vs.take rr.length)) (hx : ms.getD rr.length 0 = x) (he : vs.getD rr.length 0 = e) :
    nat (rr ++ [(c + (x + e)) % 4294967296]) + (c + (x + e)) / 4294967296 * B32 ^ (rr.length + 1) = nat (ms.take (rr.length + 1)) + nat (vs.take (rr.length + 1)) := by
  rw [nat_snoc, nat_take_succ, nat_take_succ, hx, he, Nat.pow_succ, B32_eq]
  rw [B32_eq] at h
  generalize 4294967296 ^ rr.length = p at *
  have e0 := Nat.div_add_mod (c + (x + e)) 4294967296
  generalize (c + (x + e)) / 4294967296 = q at *
  generalize hr : (c + (x + e)) % 4294967296 = r at *
  have e2 : (4294967296 * q + r) * p = (c + (x + e)) * p := by rw [e0]
  rw [Nat.add_mul, Nat.mul_comm 4294967296 q, Nat.mul_assoc, Nat.mul_comm 4294967296 p, Nat.add_mul, Nat.add_mul] at e2
  rw [Nat.mul_comm p r]
  omega

end Go.Proofs.YtnocgagoaldfnaaGreat
