/- The functions of package integer on limbs, third part. The functions of package integer on limbs, fourth part: times, word, limbs. The functions of package integer: word, limbs, value, Sign, Clone. The functions of package integer on integers. append on limbs; slices.Clone. -/
import Derived.Laws.ResultCell
import Derived.Deep.RegionHeld3
import Derived.Laws.AppendOwnNone
import Derived.Deep.DeepCutAuto
import Derived.Deep.CutBlock
import Derived.Deep.Cut
import Derived.Test.YtnocgagoaldfnaaGreatB03
set_option linter.unusedVariables false
set_option linter.unusedSimpArgs false
set_option linter.unusedSectionVars false
namespace Go.Proofs.YtnocgagoaldfnaaGreat
open Go.RowKit
theorem minus_step {xs ys zs : List Nat} {k d x y v e : Nat} (h : nat (zs.take k) + nat (ys.take k) = nat (xs.take k) + d * B32 ^ k) (hk : k < zs.length)
  (hx : xs.getD k 0 = x) (hy : ys.getD k 0 = y) (hv : v + y + d = x + e * 4294967296) :
  nat ((zs.set k v).take (k + 1)) + nat (ys.take (k + 1)) = nat (xs.take (k + 1)) + e * B32 ^ (k + 1):=by
 rw [nat_take_set _ _ _ hk,nat_take_succ,nat_take_succ,hx,hy,Nat.pow_succ,B32_eq]
 rw [B32_eq] at h
 generalize 4294967296 ^ k = p at *
 have e1 : (v + y + d) * p = (x + e * 4294967296) * p:=by rw [hv]
 rw [Nat.add_mul,Nat.add_mul,Nat.add_mul,Nat.mul_assoc,Nat.mul_comm 4294967296 p] at e1
 omega
theorem sub_borrow (x y d : Nat) (hx : x < 4294967296) (hy : y < 4294967296) (hd : d≤1) :
  ∃v e : Nat,IntKind.u32.wrap (IntKind.u64.wrap (IntKind.u64.wrap ((x : Int) - d) - y)) = v∧IntKind.u64.wrap (IntKind.u64.wrap ((x : Int) - d) - y) / 9223372036854775808 = e∧v < 4294967296∧e≤1∧v + y + d = x + e * 4294967296:=by
 simp only [IntKind.wrap_u64,IntKind.wrap_u32]
 by_cases h : y + d≤x
 ·exact ⟨x - d - y,0,by omega,by omega,by omega,by omega,by omega⟩
 ·exact ⟨x + 4294967296 - d - y,1,by omega,by omega,by omega,by omega,by omega⟩
theorem sub_borrow0 (x d : Nat) (hx : x < 4294967296) (hd : d≤1) :
  ∃v e : Nat,IntKind.u32.wrap (IntKind.u64.wrap ((x : Int) - d)) = v∧IntKind.u64.wrap ((x : Int) - d) / 9223372036854775808 = e∧v < 4294967296∧e≤1∧v + 0 + d = x + e * 4294967296:=by
 simp only [IntKind.wrap_u64,IntKind.wrap_u32]
 by_cases h : d≤x
 ·exact ⟨x - d,0,by omega,by omega,by omega,by omega,by omega⟩
 ·exact ⟨x + 4294967296 - d,1,by omega,by omega,by omega,by omega,by omega⟩
set_option maxHeartbeats 400000 in
set_option maxRecDepth 20000 in
theorem minus_any (ao1 ao2 : Option Addr) (n1 cap1 n2 cap2 : Nat) (xs ys : List Nat) (w : World) (hn1 : xs.length = n1) (hn2 : ys.length = n2) (hl1 : n1≤cap1) (hl2 : n2≤cap2)
  (hc1 : cap1≤9223372036854775807) (hc2 : cap2≤9223372036854775807) (hb1 : n1≤4 * LIM) (hx1 : LimbsAt w ao1 xs) (hx2 : LimbsAt w ao2 ys) (hle : n2≤n1) (hval : nat ys≤nat xs) :
  Calls Tryz.prog 132 #[.slice ao1 n1 cap1,.slice ao2 n2 cap2] w (RetLimbs w (nat xs - nat ys)):=by
 have HN1:=Lib.hid hn1
 have HN2:=Lib.hid hn2
 have HV:=Lib.hid hval
 have hlen1 : xs.length≤n1:=by omega
 have hlen1' : n1≤xs.length:=by omega
 have hlen2 : ys.length≤n2:=by omega
 have hlen2' : n2≤ys.length:=by omega
 clear hn1 hn2 hval
 rw [LIM_eq] at hb1
 have hmk:=fun W=>mkU (n1 : Int) n1 (by omega) (by omega) W
 go_enter Tryz.func132,Tryz.ntmps132
 go_wp2
 clear hmk
 go_loopw [6,14] (fun c i wr=>∃(k d : Nat) (zs : List Nat),k≤n1∧i = .int .i64 k∧c = .int .u64 d∧d≤1∧LBlk wr w.heap.size zs∧Below w.heap.size w wr∧n1≤zs.length ∧
   Hid (zs.length = n1∧Limbs zs∧nat (zs.take k) + nat (ys.take k) = nat (xs.take k) + d * B32 ^ k)) (fun _ i _=>n1 - (intOf i).toNat)
 case atStart=>exact ⟨0,0,List.replicate n1 0,by omega,rfl,rfl,by omega,LBlk.made _ _,(Below.refl _ _).alloc (Nat.le_refl _) _,by simp,⟨by simp,fun x hx=>by rw [List.eq_of_mem_replicate hx]; exact B32_pos,by simp⟩⟩
 case round=>
  obtain ⟨k,d,zs,hk,rfl,rfl,hd,hblk,hbel,hlz,HH⟩:=hrel
  have hfr:=hblk.frozen k
  by_cases hkn : k < n1
  ·obtain ⟨b,off,x,rfl,hbw,hx32,HX,hck⟩:=hx1.limb (k:=k) (by omega)
   have hck':=(hbel.cell (p:=⟨b,off + k,none⟩) hbw).trans hck
   have hcz:=hblk.cell (k:=k) (by omega)
   clear hck
   by_cases hk2 : k < n2
   ·obtain ⟨b2,off2,y,rfl,hbw2,hy32,HY,hcy⟩:=hx2.limb (k:=k) (by omega)
    have hcy':=(hbel.cell (p:=⟨b2,off2 + k,none⟩) hbw2).trans hcy
    clear hcy
    go_wp2
    go_roundw
    obtain ⟨v,e,e1,e2,e3,e4,e5⟩:=sub_borrow x y d hx32 hy32 hd
    case rel=>exact ⟨k + 1,e,zs.set k v,by omega,by go_num,by rw [e2],by omega,hblk.set' _ _ v (by first | exact e1 | omega),hbel.setCell (Nat.le_refl _) _,by simpa using hlz,
      ⟨by simpa using HH.out.1,HH.out.2.1.set _ _ e3,minus_step HH.out.2.2 (by omega) HX.out HY.out e5⟩⟩
    case measure=>simp [intOf]; omega
   ·have HY : ys.getD k 0 = 0:=by rw [List.getD_eq_getElem?_getD,List.getElem?_eq_none (by omega)]; rfl
    have HY':=Lib.hid HY
    clear HY
    go_wp2
    go_roundw
    obtain ⟨v,e,e1,e2,e3,e4,e5⟩:=sub_borrow0 x d hx32 hd
    case rel=>exact ⟨k + 1,e,zs.set k v,by omega,by go_num,by rw [e2],by omega,hblk.set' _ _ v (by first | exact e1 | omega),hbel.setCell (Nat.le_refl _) _,by simpa using hlz,
      ⟨by simpa using HH.out.1,HH.out.2.1.set _ _ e3,minus_step HH.out.2.2 (by omega) HX.out HY'.out e5⟩⟩
    case measure=>simp [intOf]; omega
  ·obtain rfl : n1 = k:=by omega
   go_wp2
   go_ret
   have h1:=HH.out.2.2
   rw [nat_take_all xs hlen1,nat_take_all ys (by omega),nat_take_all zs (by rw [HH.out.1]; omega)] at h1
   have h2:=nat_lt HH.out.2.1
   rw [HH.out.1] at h2
   have h3:=HV.out
   refine ⟨_,_,_,zs,rfl,HH.out.1,by omega,by omega,hblk.at_ HH.out.2.1,?_,hbel⟩
   generalize B32 ^ n1 = p at h1 h2
   have h4 : d = 0 ∨ d = 1:=by omega
   rcases h4 with rfl | rfl <;> omega
theorem times_step {ys zs zs0 : List Nat} {i k c x y z : Nat} (h : nat (zs.take (i + k)) + c * B32 ^ (i + k) = nat (zs0.take (i + k)) + x * B32 ^ i * nat (ys.take k)) (hk : i + k < zs.length)
    (hy : ys.getD k 0 = y) (hz : zs.getD (i + k) 0 = z) (hz0 : zs0.getD (i + k) 0 = z) :
    nat ((zs.set (i + k) ((c + (x * y + z)) % 4294967296)).take (i + (k + 1))) + (c + (x * y + z)) / 4294967296 * B32 ^ (i + (k + 1)) = nat (zs0.take (i + (k + 1))) + x * B32 ^ i * nat (ys.take (k + 1)):=by
  rw [show i + (k + 1) = i + k + 1 from rfl,nat_take_set _ _ _ hk,nat_take_succ zs0,nat_take_succ ys,hy,hz0,Nat.mul_add,Nat.pow_succ,B32_eq]
  rw [B32_eq] at h
  have e1 : x * 4294967296 ^ i * (y * 4294967296 ^ k) = x * y * 4294967296 ^ (i + k):=by rw [Nat.pow_add]; simp only [Nat.mul_assoc,Nat.mul_comm,Nat.mul_left_comm]
  rw [e1]
  generalize 4294967296 ^ (i + k) = p at *
  generalize x * 4294967296 ^ i * nat (ys.take k) = t at *
  generalize x * y = m at *
  have e:=Nat.div_add_mod (c + (m + z)) 4294967296
  generalize (c + (m + z)) / 4294967296 = q at *
  generalize (c + (m + z)) % 4294967296 = r at *
  have e2 : r * p + q * (p * 4294967296) = (c + (m + z)) * p:=by rw [← e,Nat.add_mul,Nat.mul_comm 4294967296 q,Nat.mul_assoc,Nat.mul_comm 4294967296 p,Nat.add_comm]
  rw [Nat.add_mul,Nat.add_mul] at e2
  omega
theorem mul_lt32 {x y : Nat} (hx : x < 4294967296) (hy : y < 4294967296) : x * y≤18446744065119617025:=by
  have h1 : x * y≤4294967295 * 4294967295:=Nat.mul_le_mul (by omega) (by omega)
  omega
theorem mul_lt32i {x y : Nat} (hx : x < 4294967296) (hy : y < 4294967296) : (x : Int) * (y : Int)≤18446744065119617025∧0≤(x : Int) * (y : Int):=by
  have h:=mul_lt32 hx hy
  rw [← Int.natCast_mul]
  generalize x * y = m at *
  omega
theorem getD_drop_eq {xs ys : List Nat} {k : Nat} (h : xs.drop k = ys.drop k) {j : Nat} (hj : k≤j) : xs.getD j 0 = ys.getD j 0:=by
  have:=congrArg (fun l=>l.getD (j - k) 0) h
  simp only [List.getD_eq_getElem?_getD,List.getElem?_drop] at this
  rw [show k + (j - k) = j by omega] at this
  simpa [List.getD_eq_getElem?_getD] using this
theorem drop_set_succ (zs : List Nat) (k v : Nat) : (zs.set k v).drop (k + 1) = zs.drop (k + 1):=by
  rw [List.drop_set_of_lt (by omega)]
theorem drop_succ_eq {xs ys : List Nat} {k : Nat} (h : xs.drop k = ys.drop k) : xs.drop (k + 1) = ys.drop (k + 1):=by
  have:=congrArg List.tail h
  simpa using this
set_option maxHeartbeats 1000000 in
set_option maxRecDepth 20000 in
theorem times_any (ao1 ao2 : Option Addr) (n1 cap1 n2 cap2 : Nat) (xs ys : List Nat) (w : World) (hn1 : xs.length = n1) (hn2 : ys.length = n2)
    (hb1 : n1≤4 * LIM) (hb2 : n2≤4 * LIM) (hx1 : LimbsAt w ao1 xs) (hx2 : LimbsAt w ao2 ys) :
    Calls Tryz.prog 117 #[.slice ao1 n1 cap1,.slice ao2 n2 cap2] w (RetLimbs w (nat xs * nat ys)):=by
  have HN1:=Lib.hid hn1
  have HN2:=Lib.hid hn2
  have hlen1 : xs.length≤n1:=by omega
  have hlen1' : n1≤xs.length:=by omega
  have hlen2 : ys.length≤n2:=by omega
  have hlen2' : n2≤ys.length:=by omega
  clear hn1 hn2
  rw [LIM_eq] at hb1 hb2
  have hmk:=fun W=>mkU ((n1 : Int) + n2) (n1 + n2) (by omega) (by omega) W
  go_enter Tryz.func117,Tryz.ntmps117
  go_wp2
  clear hmk
  go_loopw [19] (fun i wr=>∃(k : Nat) (zs : List Nat),k≤n1∧i = .int .i64 k∧LBlk wr w.heap.size zs∧Below w.heap.size w wr∧n1 + n2≤zs.length ∧
      Hid (zs.length = n1 + n2∧Limbs zs∧nat (zs.take (k + n2)) = nat (xs.take k) * nat ys)) (fun i _=>n1 - (intOf i).toNat)
  case atStart=>exact ⟨0,List.replicate (n1 + n2) 0,by omega,rfl,LBlk.made _ _,(Below.refl _ _).alloc (Nat.le_refl _) _,by simp,⟨by simp,fun x hx=>by rw [List.eq_of_mem_replicate hx]; exact B32_pos,by
    have : ∀m,nat (List.replicate m 0) = 0:=fun m=>by induction m with
      | zero=>rfl
      | succ m ih=>rw [List.replicate_succ,nat_cons,ih]; rfl
    rw [List.take_replicate,this]; simp⟩⟩
  case round=>
    obtain ⟨k,zs0,hk,rfl,hblk0,hbel0,hlz0,HH0⟩:=hrel
    obtain ⟨wo,rfl⟩ : ∃wo : World,wo = wr:=⟨_,rfl⟩
    by_cases hkn : k < n1
    · obtain ⟨b,off,x,rfl,hbw,hx32,HX,hck⟩:=hx1.limb (k:=k) (by omega)
      have hck':=(hbel0.cell (p:=⟨b,off + k,none⟩) hbw).trans hck
      clear hck
      go_wp2
      go_loopw [8,26] (fun cv i wr=>∃(j c : Nat) (zs : List Nat),j≤n2∧i = .int .i64 j∧cv = .int .u64 c∧c < 4294967296∧LBlk wr w.heap.size zs∧Below w.heap.size w wr∧n1 + n2≤zs.length ∧
          Hid (zs.length = n1 + n2∧Limbs zs∧zs.drop (k + j) = zs0.drop (k + j)∧nat (zs.take (k + j)) + c * B32 ^ (k + j) = nat (zs0.take (k + j)) + x * B32 ^ k * nat (ys.take j))) (fun _ i _=>n2 - (intOf i).toNat)
      case atStart=>exact ⟨0,0,zs0,by omega,rfl,rfl,by omega,hblk0,hbel0,hlz0,⟨HH0.out.1,HH0.out.2.1,rfl,by simp⟩⟩
      case round=>
        obtain ⟨j,c,zs,hj,rfl,rfl,hc,hblk,hbel,hlz,HH⟩:=hrel
        have hfr:=hblk.frozen (k + j)
        by_cases hjn : j < n2
        · obtain ⟨b2,off2,y,rfl,hbw2,hy32,HY,hcy⟩:=hx2.limb (k:=j) (by omega)
          have hcy':=(hbel.cell (p:=⟨b2,off2 + j,none⟩) hbw2).trans hcy
          clear hcy
          obtain ⟨z,HZ⟩ : ∃z,zs.getD (k + j) 0 = z:=⟨_,rfl⟩
          have hz32 : z < 4294967296:=by rw [← HZ]; exact HH.out.2.1.get _
          have hcz:=hblk.cell (k:=k + j) (by omega)
          rw [HZ] at hcz
          have HZ':=Lib.hid HZ
          clear HZ
          have hm1:=mul_lt32 hx32 hy32
          obtain ⟨hm2,hm3⟩:=mul_lt32i hx32 hy32
          go_wp2
          go_roundw
          case rel=>
            have ec : (((c + (x * y + z)) / 4294967296 : Nat) : Int) = ((c : Int) + ((x : Int) * (y : Int) + (z : Int))) / 4294967296:=by simp
            have hlt : c + (x * y + z) < 18446744073709551616:=by generalize x * y = m at *; omega
            refine ⟨j + 1,(c + (x * y + z)) / 4294967296,zs.set (k + j) ((c + (x * y + z)) % 4294967296),by omega,by go_num,by rw [ec],by generalize x * y = m at *; omega,hblk.set' _ _ _ (by simp),hbel.setCell (Nat.le_refl _) _,by simpa using hlz,
              ⟨by simpa using HH.out.1,HH.out.2.1.set _ _ (Nat.mod_lt _ (by omega)),?_,times_step HH.out.2.2.2 (by omega) HY.out HZ'.out ((getD_drop_eq HH.out.2.2.1 (Nat.le_refl _)).symm.trans HZ'.out)⟩⟩
            rw [show k + (j + 1) = k + j + 1 from rfl,drop_set_succ]
            exact drop_succ_eq HH.out.2.2.1
          case measure=>simp [intOf]; omega
        · obtain rfl : n2 = j:=by omega
          have hcz:=hblk.cell (k:=k + n2) (by omega)
          go_wp2
          go_roundw
          case rel=>
            refine ⟨k + 1,zs.set (k + n2) c,by omega,by go_num,hblk.set' _ _ _ rfl,hbel.setCell (Nat.le_refl _) _,by simpa using hlz,⟨by simpa using HH.out.1,HH.out.2.1.set _ _ hc,?_⟩⟩
            have h1:=HH.out.2.2.2
            have h2:=HH0.out.2.2
            rw [h2,nat_take_all ys (by omega)] at h1
            rw [show k + 1 + n2 = k + n2 + 1 by omega,nat_take_set _ _ _ (by omega),h1,nat_take_succ xs,HX.out,Nat.add_mul]
          case measure=>simp [intOf]; omega
    · obtain rfl : n1 = k:=by omega
      go_wp2
      go_ret
      have h1:=HH0.out.2.2
      rw [nat_take_all xs hlen1,nat_take_all zs0 (by rw [HH0.out.1]; omega)] at h1
      exact ⟨_,_,_,zs0,rfl,HH0.out.1,by omega,by omega,hblk0.at_ HH0.out.2.1,h1,hbel0⟩
set_option maxHeartbeats 400000 in
theorem value_any (neg : Bool) (ao : Option Addr) (n cap : Nat) (xs : List Nat) (w : World) (hn : xs.length = n) (hl : n≤cap) (hcap : cap≤9223372036854775807) (hx : LimbsAt w ao xs) :
  Calls Tryz.prog 90 #[.bool neg,.slice ao n cap] w (RetInt w (sgn neg (nat xs))):=by
 have HN:=Lib.hid hn
 have htl:=topLen_le xs n
 obtain ⟨t,HT⟩ : ∃t,topLen xs n = t:=⟨_,rfl⟩
 rw [HT] at htl
 have hcall:=fun W hw=>trim_any ao n cap xs W hn hl hcap hw
 rw [HT] at hcall
 have HT':=Lib.hid HT
 clear HT hn
 have hnorm : Normal (xs.take t):=by
  have h1:=trimmed_normal xs
  unfold trimmed at h1
  rw [HN.out,HT'.out] at h1
  exact h1
 have hval : Hid (nat (xs.take t) = nat xs):=by
  have h1:=trimmed_nat xs
  unfold trimmed at h1
  rw [HN.out,HT'.out] at h1
  exact h1
 by_cases h0 : t = 0
 ·subst h0
  go_enter Tryz.func90,Tryz.ntmps90
  go_wp2_with (go_at_call 98; refine (hcall _ ?_).mono ?_; exact hx.ext (LExt.below ((Below.refl _ _).alloc (Nat.le_refl _) _) (Nat.le_refl _)); rintro e w' ⟨rfl,rfl⟩)
  refine bodyPost_ret (v:=.agg #[.bool false,.slice none 0 0]) (by simp [results,Tryz.results90,go_sem]) rfl ?_
  refine ⟨_,rfl,⟨false,none,0,0,[],rfl,rfl,by omega,by omega,LimbsAt.nil _ _,Normal.nil,?_,by simp⟩,(Below.refl _ _).alloc (Nat.le_refl _) _⟩
  have:=hval.out
  simp at this
  rw [← this]
  simp [sgn_zero]
 ·have ht0 : ((t : Int) == 0) = false:=by simpa using h0
  go_enter Tryz.func90,Tryz.ntmps90
  go_wp2_with (go_at_call 98; refine (hcall _ ?_).mono ?_; exact hx.ext (LExt.below ((Below.refl _ _).alloc (Nat.le_refl _) _) (Nat.le_refl _)); rintro e w' ⟨rfl,rfl⟩)
  refine bodyPost_ret (v:=.agg #[.bool neg,.slice ao t t]) (by simp [results,Tryz.results90,go_sem]) rfl ?_
  have hB : Below w.heap.size w (w.alloc (.cells #[.bool neg,.slice ao t t] 45)):=(Below.refl _ _).alloc (Nat.le_refl _) _
  exact ⟨_,rfl,⟨neg,ao,t,t,xs.take t,rfl,by rw [List.length_take,HN.out]; omega,by omega,by omega,(hx.take t).ext (LExt.below hB (Nat.le_refl _)),hnorm,by rw [hval.out],by omega⟩,hB⟩
theorem LimbsAt.two (w : World) (a b : Nat) (ha : a < 4294967296) (hb : b < 4294967296) (m k : Int) (hm : m = a) (hk : k = b) :
  LimbsAt (w.alloc (.cells #[.int .u32 m,.int .u32 k] tU)) (some ⟨w.heap.size,0,none⟩) [a,b]:=by
 subst hm; subst hk
 exact (LBlk.made w [a,b]).at_ (fun x hx=>by simp at hx; unfold B32; omega)
theorem LimbsAt.one (w : World) (a : Nat) (ha : a < 4294967296) (m : Int) (hm : m = a) :
  LimbsAt (w.alloc (.cells #[.int .u32 m] tU)) (some ⟨w.heap.size,0,none⟩) [a]:=by
 subst hm
 exact (LBlk.made w [a]).at_ (fun x hx=>by simp at hx; unfold B32; omega)
set_option maxHeartbeats 400000 in
theorem limbs_any (u : Nat) (w : World) (hu : u < 18446744073709551616) :
  Calls Tryz.prog 91 #[.int .u64 (u : Nat)] w (RetLimbs w u):=by
 go_enter Tryz.func91,Tryz.ntmps91
 go_wp2
 go_ret
 exact ⟨_,_,_,[u % 4294967296,u / 4294967296],rfl,rfl,by omega,by omega,LimbsAt.two w _ _ (by omega) (by omega) _ _ (by simp [IntKind.wrap_u32]) (by simp [IntKind.wrap_u32]),by simp [nat_cons,B32_eq]; omega,(Below.refl _ _).alloc (Nat.le_refl _) _⟩
set_option maxHeartbeats 400000 in
theorem sign_any (v : Value) (z : Int) (w : World) (h : IntW w v z) :
  Calls Tryz.prog 62 #[v] w fun e w'=>e = .returned (.int .i64 (cmpI z 0))∧Below w.heap.size w w':=by
 obtain ⟨neg,ao,n,cap,xs,rfl,hn,hl,hcap,hx,hN,hz⟩:=h
 have hcall:=fun W hw=>trim_any ao n cap xs W hn hl hcap hw
 rw [← hn,topLen_of_normal hN,hn] at hcall
 by_cases h0 : n = 0
 ·have E : Hid (cmpI z 0 = 0):=by
   have : xs = []:=List.eq_nil_of_length_eq_zero (by omega)
   subst this
   exact cmpI_eq (by rw [hz]; simp [sgn_zero])
  clear hz hn
  subst h0
  go_enter Tryz.func62,Tryz.ntmps62
  go_wp2_with (go_at_call 98; refine (hcall _ ?_).mono ?_; exact hx.ext (LExt.below ((Below.refl _ _).alloc (Nat.le_refl _) _) (Nat.le_refl _)); rintro e w' ⟨rfl,rfl⟩)
  go_ret
  exact ⟨by rw [E.out]; rfl,(Below.refl _ _).alloc (Nat.le_refl _) _⟩
 ·have hp : 0 < nat xs:=nat_pos hN (by rintro rfl; simp at hn; omega)
  have h0' : ((n : Int) == 0) = false:=by simpa using h0
  cases neg with
  | true=>
   have E : Hid (cmpI z 0 = -1):=cmpI_lt (by rw [hz]; simp; omega)
   clear hz hn
   go_enter Tryz.func62,Tryz.ntmps62
   go_wp2_with (go_at_call 98; refine (hcall _ ?_).mono ?_; exact hx.ext (LExt.below ((Below.refl _ _).alloc (Nat.le_refl _) _) (Nat.le_refl _)); rintro e w' ⟨rfl,rfl⟩)
   go_ret
   exact ⟨by rw [E.out]; rfl,(Below.refl _ _).alloc (Nat.le_refl _) _⟩
  | false=>
   have E : Hid (cmpI z 0 = 1):=cmpI_gt (by rw [hz]; simp; omega)
   clear hz hn
   go_enter Tryz.func62,Tryz.ntmps62
   go_wp2_with (go_at_call 98; refine (hcall _ ?_).mono ?_; exact hx.ext (LExt.below ((Below.refl _ _).alloc (Nat.le_refl _) _) (Nat.le_refl _)); rintro e w' ⟨rfl,rfl⟩)
   go_ret
   exact ⟨by rw [E.out]; rfl,(Below.refl _ _).alloc (Nat.le_refl _) _⟩
set_option maxHeartbeats 400000 in
theorem of_any (n : Int) (w : World) (h1 : -9223372036854775808≤n) (h2 : n≤9223372036854775807) :
  Calls Tryz.prog 48 #[.int .i64 n] w (RetInt w n):=by
 by_cases hn : n < 0
 ·have e : IntKind.u64.wrap (-IntKind.u64.wrap n) = ((n.natAbs : Nat) : Int):=by simp only [IntKind.wrap_u64]; omega
  go_enter Tryz.func48,Tryz.ntmps48
  go_wp2_with fail
  refine (limbs_any n.natAbs _ (by omega)).mono ?_
  rintro e1 w1 ⟨ao,len,cap,zs,rfl,hz1,hz2,hz3,hz4,hz5,hb1⟩
  have br1:=(Blk.new w 45 #[.bool false,.slice none 0 0]).below hb1
  go_wp2_with fail
  refine (value_any true ao len cap zs _ hz1 hz2 hz3 hz4).mono ?_
  rintro e2 w2 ⟨v,rfl,hv,hb2⟩
  have br2:=br1.below hb2
  obtain ⟨k1,k2,k3,k4⟩:=br2.two
  obtain ⟨vn,va,vl,vc,vx,rfl,hv2⟩:=hv
  go_wp2_with fail
  refine bodyPost_int rfl rfl rfl (br2.put2 _ _) ?_ (bset (bset (nx (nx ((Below.refl _ _).alloc (Nat.le_refl _) _) hb1) hb2) (by omega) 0 _) (by omega) 1 _)
  refine IntV.ext ?_ (br2.lext2 (by decide) _ _)
  have e3 : sgn true (nat zs) = n:=by rw [hz5]; simp; omega
  rw [← e3]
  exact ⟨vn,va,vl,vc,vx,rfl,hv2⟩
 ·obtain ⟨m,rfl⟩:=Int.eq_ofNat_of_zero_le (show 0≤n by omega)
  go_enter Tryz.func48,Tryz.ntmps48
  go_wp2_with fail
  refine (limbs_any m _ (by omega)).mono ?_
  rintro e1 w1 ⟨ao,len,cap,zs,rfl,hz1,hz2,hz3,hz4,hz5,hb1⟩
  have br1:=(Blk.new w 45 #[.bool false,.slice none 0 0]).below hb1
  go_wp2_with fail
  refine (value_any false ao len cap zs _ hz1 hz2 hz3 hz4).mono ?_
  rintro e2 w2 ⟨v,rfl,hv,hb2⟩
  have br2:=br1.below hb2
  obtain ⟨k1,k2,k3,k4⟩:=br2.two
  obtain ⟨vn,va,vl,vc,vx,rfl,hv2⟩:=hv
  go_wp2_with fail
  refine bodyPost_int rfl rfl rfl (br2.put2 _ _) ?_ (bset (bset (nx (nx ((Below.refl _ _).alloc (Nat.le_refl _) _) hb1) hb2) (by omega) 0 _) (by omega) 1 _)
  refine IntV.ext ?_ (br2.lext2 (by decide) _ _)
  have e3 : sgn false (nat zs) = m:=by rw [hz5]; simp
  rw [← e3]
  exact ⟨vn,va,vl,vc,vx,rfl,hv2⟩
theorem cmpI_nonneg {a b : Int} (h : ¬ a < b) : 0≤cmpI a b:=by
 unfold cmpI; rw [if_neg h]; split <;> omega
theorem sgn_add (neg : Bool) (a b : Nat) : sgn neg (a + b) = sgn neg a + sgn neg b:=by cases neg <;> simp <;> omega
theorem sgn_sub1 {n1 n2 : Bool} (h : n1 ≠ n2) (a b : Nat) (hl : b≤a) : sgn n1 (a - b) = sgn n1 a + sgn n2 b:=by
 cases n1 <;> cases n2 <;> simp at h ⊢ <;> omega
theorem sgn_sub2 {n1 n2 : Bool} (h : n1 ≠ n2) (a b : Nat) (hl : a≤b) : sgn n2 (b - a) = sgn n1 a + sgn n2 b:=by
 cases n1 <;> cases n2 <;> simp at h ⊢ <;> omega
set_option maxHeartbeats 1000000 in
theorem add_any (v1 v2 : Value) (z1 z2 : Int) (w : World) (h1 : IntW w v1 z1) (h2 : IntW w v2 z2) (s1 : Sm z1) (s2 : Sm z2) :
  Calls Tryz.prog 126 #[v1,v2] w (RetInt w (z1 + z2)):=by
 obtain ⟨neg1,ao1,n1,cap1,xs,rfl,hn1,hl1,hc1,hx1,hN1,hz1⟩:=h1
 obtain ⟨neg2,ao2,n2,cap2,ys,rfl,hn2,hl2,hc2,hx2,hN2,hz2⟩:=h2
 have hq1 : n1≤4 * LIM:=by
  have : n1≤LIM:=by rw [← hn1]; exact Sm.len (neg:=neg1) (by rw [← hz1]; exact s1) hN1
  omega
 have hq2 : n2≤4 * LIM:=by
  have : n2≤LIM:=by rw [← hn2]; exact Sm.len (neg:=neg2) (by rw [← hz2]; exact s2) hN2
  omega
 have hcall1:=fun W hw=>trim_any ao1 n1 cap1 xs W hn1 hl1 hc1 hw
 rw [← hn1,topLen_of_normal hN1,hn1] at hcall1
 have hcall2:=fun W hw=>trim_any ao2 n2 cap2 ys W hn2 hl2 hc2 hw
 rw [← hn2,topLen_of_normal hN2,hn2] at hcall2
 have HN1:=Lib.hid hn1
 have HN2:=Lib.hid hn2
 have HZ1:=Lib.hid hz1
 have HZ2:=Lib.hid hz2
 clear hn1 hn2 hz1 hz2 s1 s2
 have Hcall1:=Lib.hid hcall1
 by_cases hs : neg1 = neg2
 ·subst hs
  go_enter Tryz.func126,Tryz.ntmps126
  go_wp2_with fail
  refine wp_world ?_
  intro W0 hW0
  obtain ⟨hB0,bx1,bx2,br,hs0⟩:=world3 hW0
  have hx1':=hx1.ext (lx hB0)
  have hx2':=hx2.ext (lx hB0)
  obtain ⟨c1,c2,c3,c4⟩:=bx1.two
  obtain ⟨d1,d2,d3,d4⟩:=bx2.two
  go_quiet ((first | (go_at_call_of 98 ao1; exact Calls.quiet_of_same ((hcall1 _ (hx1'.ext (lx (drN _ _)))).mono (by rintro e w' ⟨rfl,rfl⟩; exact ⟨rfl,rfl⟩))) | (go_at_call_of 98 ao2; exact Calls.quiet_of_same ((hcall2 _ (hx2'.ext (lx (drN _ _)))).mono (by rintro e w' ⟨rfl,rfl⟩; exact ⟨rfl,rfl⟩)))))
  go_wp2_with fail
  refine wp_world ?_
  intro W1 hW1
  have hB1 : Below w.heap.size w W1:=by rw [hW1.out]; exact nx hB0 (drN _ _)
  have bx1':=Blk.at_ hW1 bx1
  have bx2':=Blk.at_ hW1 bx2
  have br':=Blk.at_ hW1 br
  have lx1:=lx (nx hB1 (dr W1))
  clear c1 c2 c3 c4 d1 d2 d3 d4
  obtain ⟨c1,c2,c3,c4⟩:=bx1'.two
  obtain ⟨d1,d2,d3,d4⟩:=bx2'.two
  go_region_held3 (fun w'=>w'.cell? ⟨w.heap.size,0,none⟩ = some (.bool neg1))
   ((((try go_split_ands); (repeat' apply And.intro)) <;> first | exact kc_drew (by assumption) | exact kc_below (by assumption) hb1 | exact kc_below (by assumption) hb2 | exact kc_set (kc_set (by assumption) (by omega)) (by omega)))
   (first
    | ((go_at_call 131; refine (plus_any ao1 ao2 n1 n1 n2 n2 xs ys _ HN1.out HN2.out (Nat.le_refl _) (Nat.le_refl _) (by omega) (by omega) hq1 hq2 (hx1.ext lx1) (hx2.ext lx1)).mono ?_; rintro e w1 ⟨ao,len,cap,zs,rfl,hz1,hz2,hz3,hz4,hz5,hb1⟩; have br1:=br'.drew.below hb1))
    | ((go_at_call 90; refine (value_any neg1 ao len cap zs _ hz1 hz2 hz3 hz4).mono ?_; rintro e w2 ⟨v,rfl,hv,hb2⟩; have br2:=br1.below hb2; obtain ⟨e1,e2,e3,e4⟩:=br2.two; obtain ⟨vn,va,vl,vc,vx,rfl,hv2⟩:=hv)))
  go_wp2_with fail
  refine bodyPost_int rfl rfl rfl (br2.put2 _ _) ?_ (bset (bset (nx (nx (nx hB1 (dr W1)) hb1) hb2) (by omega) 0 _) (by omega) 1 _)
  refine IntV.ext ?_ (br2.lext2 (by decide) _ _)
  rw [hz5] at hv2
  rw [HZ1.out,HZ2.out,← sgn_add]
  exact ⟨vn,va,vl,vc,vx,rfl,hv2⟩
 ·have hs' : (neg1 == neg2) = false:=by simpa using hs
  have Hs:=Lib.hid hs
  clear hs
  by_cases hlt : nat xs < nat ys
  ·have hcmp:=fun W h1 h2=>compare_any ao1 ao2 n1 n1 n2 n2 xs ys W HN1.out HN2.out (Nat.le_refl _) (Nat.le_refl _) (by omega) (by omega) h1 h2 hN1 hN2
   rw [cmpI_lt (by omega)] at hcmp
   go_enter Tryz.func126,Tryz.ntmps126
   go_wp2_with fail
   refine wp_world ?_
   intro W0 hW0
   obtain ⟨hB0,bx1,bx2,br,hs0⟩:=world3 hW0
   have hx1':=hx1.ext (lx hB0)
   have hx2':=hx2.ext (lx hB0)
   obtain ⟨c1,c2,c3,c4⟩:=bx1.two
   obtain ⟨d1,d2,d3,d4⟩:=bx2.two
   go_quiet ((first | (go_at_call_of 98 ao1; exact Calls.quiet_of_same ((hcall1 _ (hx1'.ext (lx (drN _ _)))).mono (by rintro e w' ⟨rfl,rfl⟩; exact ⟨rfl,rfl⟩))) | (go_at_call_of 98 ao2; exact Calls.quiet_of_same ((hcall2 _ (hx2'.ext (lx (drN _ _)))).mono (by rintro e w' ⟨rfl,rfl⟩; exact ⟨rfl,rfl⟩)))))
   have hx1'':=hx1'.ext (lx (drN W0 nq))
   have hx2'':=hx2'.ext (lx (drN W0 nq))
   go_wp2_with (go_at_call 128; refine (hcmp _ hx1'' hx2'').mono ?_; rintro e w' ⟨rfl,q,rfl⟩)
   refine wp_world ?_
   intro W1 hW1
   have hB1 : Below w.heap.size w W1:=by rw [hW1.out]; exact nx hB0 (drN _ _)
   have bx1':=Blk.at_ hW1 bx1
   have bx2':=Blk.at_ hW1 bx2
   have br':=Blk.at_ hW1 br
   have lx1:=lx (nx hB1 (dr W1))
   clear c1 c2 c3 c4 d1 d2 d3 d4
   obtain ⟨c1,c2,c3,c4⟩:=bx1'.two
   obtain ⟨d1,d2,d3,d4⟩:=bx2'.two
   go_region_held3 (fun w'=>w'.cell? ⟨(w.heap.size + 1),0,none⟩ = some (.bool neg2))
    ((((try go_split_ands); (repeat' apply And.intro)) <;> first | exact kc_drew (by assumption) | exact kc_below (by assumption) hb1 | exact kc_below (by assumption) hb2 | exact kc_set (kc_set (by assumption) (by omega)) (by omega)))
    (first
     | ((go_at_call 132; refine (minus_any ao2 ao1 n2 n2 n1 n1 ys xs _ HN2.out HN1.out (Nat.le_refl _) (Nat.le_refl _) (by omega) (by omega) hq2 (hx2.ext lx1) (hx1.ext lx1) (by rw [← HN1.out,← HN2.out]; exact nat_length hx2.1 hN1 (by omega)) (by omega)).mono ?_; rintro e w1 ⟨ao,len,cap,zs,rfl,hz1,hz2,hz3,hz4,hz5,hb1⟩; have br1:=br'.drew.below hb1))
     | ((go_at_call 90; refine (value_any neg2 ao len cap zs _ hz1 hz2 hz3 hz4).mono ?_; rintro e w2 ⟨v,rfl,hv,hb2⟩; have br2:=br1.below hb2; obtain ⟨e1,e2,e3,e4⟩:=br2.two; obtain ⟨vn,va,vl,vc,vx,rfl,hv2⟩:=hv)))
   go_wp2_with fail
   refine bodyPost_int rfl rfl rfl (br2.put2 _ _) ?_ (bset (bset (nx (nx (nx hB1 (dr W1)) hb1) hb2) (by omega) 0 _) (by omega) 1 _)
   refine IntV.ext ?_ (br2.lext2 (by decide) _ _)
   rw [hz5] at hv2
   rw [HZ1.out,HZ2.out,← sgn_sub2 Hs.out _ _ (by omega)]
   exact ⟨vn,va,vl,vc,vx,rfl,hv2⟩
  ·have hcmp:=fun W h1 h2=>compare_any ao1 ao2 n1 n1 n2 n2 xs ys W HN1.out HN2.out (Nat.le_refl _) (Nat.le_refl _) (by omega) (by omega) h1 h2 hN1 hN2
   obtain ⟨cc,hcc,hcc0⟩ : ∃cc : Int,cmpI (nat xs) (nat ys) = cc∧0≤cc:=⟨_,rfl,cmpI_nonneg (by omega)⟩
   rw [hcc] at hcmp
   clear hcc
   go_enter Tryz.func126,Tryz.ntmps126
   go_wp2_with fail
   refine wp_world ?_
   intro W0 hW0
   obtain ⟨hB0,bx1,bx2,br,hs0⟩:=world3 hW0
   have hx1':=hx1.ext (lx hB0)
   have hx2':=hx2.ext (lx hB0)
   obtain ⟨c1,c2,c3,c4⟩:=bx1.two
   obtain ⟨d1,d2,d3,d4⟩:=bx2.two
   go_quiet ((first | (go_at_call_of 98 ao1; exact Calls.quiet_of_same ((hcall1 _ (hx1'.ext (lx (drN _ _)))).mono (by rintro e w' ⟨rfl,rfl⟩; exact ⟨rfl,rfl⟩))) | (go_at_call_of 98 ao2; exact Calls.quiet_of_same ((hcall2 _ (hx2'.ext (lx (drN _ _)))).mono (by rintro e w' ⟨rfl,rfl⟩; exact ⟨rfl,rfl⟩)))))
   have hx1'':=hx1'.ext (lx (drN W0 nq))
   have hx2'':=hx2'.ext (lx (drN W0 nq))
   go_wp2_with (go_at_call 128; refine (hcmp _ hx1'' hx2'').mono ?_; rintro e w' ⟨rfl,q,rfl⟩)
   refine wp_world ?_
   intro W1 hW1
   have hB1 : Below w.heap.size w W1:=by rw [hW1.out]; exact nx hB0 (drN _ _)
   have bx1':=Blk.at_ hW1 bx1
   have bx2':=Blk.at_ hW1 bx2
   have br':=Blk.at_ hW1 br
   have lx1:=lx (nx hB1 (dr W1))
   clear c1 c2 c3 c4 d1 d2 d3 d4
   obtain ⟨c1,c2,c3,c4⟩:=bx1'.two
   obtain ⟨d1,d2,d3,d4⟩:=bx2'.two
   go_region_held3 (fun w'=>w'.cell? ⟨w.heap.size,0,none⟩ = some (.bool neg1))
    ((((try go_split_ands); (repeat' apply And.intro)) <;> first | exact kc_drew (by assumption) | exact kc_below (by assumption) hb1 | exact kc_below (by assumption) hb2 | exact kc_set (kc_set (by assumption) (by omega)) (by omega)))
    (first
     | ((go_at_call 132; refine (minus_any ao1 ao2 n1 n1 n2 n2 xs ys _ HN1.out HN2.out (Nat.le_refl _) (Nat.le_refl _) (by omega) (by omega) hq1 (hx1.ext lx1) (hx2.ext lx1) (by rw [← HN1.out,← HN2.out]; exact nat_length hx1.1 hN2 (by omega)) (by omega)).mono ?_; rintro e w1 ⟨ao,len,cap,zs,rfl,hz1,hz2,hz3,hz4,hz5,hb1⟩; have br1:=br'.drew.below hb1))
     | ((go_at_call 90; refine (value_any neg1 ao len cap zs _ hz1 hz2 hz3 hz4).mono ?_; rintro e w2 ⟨v,rfl,hv,hb2⟩; have br2:=br1.below hb2; obtain ⟨e1,e2,e3,e4⟩:=br2.two; obtain ⟨vn,va,vl,vc,vx,rfl,hv2⟩:=hv)))
   go_wp2_with fail
   refine bodyPost_int rfl rfl rfl (br2.put2 _ _) ?_ (bset (bset (nx (nx (nx hB1 (dr W1)) hb1) hb2) (by omega) 0 _) (by omega) 1 _)
   refine IntV.ext ?_ (br2.lext2 (by decide) _ _)
   rw [hz5] at hv2
   rw [HZ1.out,HZ2.out,← sgn_sub1 Hs.out _ _ (by omega)]
   exact ⟨vn,va,vl,vc,vx,rfl,hv2⟩
def OwnL (w : World) (base : Nat) (v : Value) (xs : List Nat) : Prop:=Limbs xs∧w.ownsRow base tU 1 v xs.length (xs.map fun n=>Value.int .u32 (n : Nat))
theorem OwnL.at_ {w : World} {base : Nat} {v : Value} {xs : List Nat} (h : OwnL w base v xs) :
  ∃ao cap,v = .slice ao xs.length cap∧xs.length≤cap∧cap≤9223372036854775807∧LimbsAt w ao xs:=by
 obtain ⟨hl,h1,h2⟩:=h
 rcases h2 with ⟨rfl,h0⟩ | ⟨g,cap,cur,rfl,hg,hh,hn,hc,hs,ht⟩
 ·have : xs = []:=List.eq_nil_of_length_eq_zero h0
  subst this
  exact ⟨none,0,rfl,by simp,by omega,LimbsAt.nil _ _⟩
 ·refine ⟨some ⟨g,0,none⟩,cap,rfl,hn,hc,hl,fun _=>⟨g,0,cur,_,rfl,hh,fun k x hk=>?_⟩⟩
  have hk' : (xs.map fun n=>Value.int .u32 (n : Nat))[k]? = some (.int .u32 (x : Nat)):=by simp [hk]
  rw [← ht,List.getElem?_take] at hk'
  split at hk'
  ·simpa using hk'
  ·cases hk'
theorem OwnL.nil (w : World) (base : Nat) : OwnL w base (.slice none 0 0) []:=⟨Limbs.nil,World.ownsRow_nil _ _ _ _⟩
theorem OwnL.empty (w : World) (base : Nat) (h : base≤w.heap.size) : OwnL (w.alloc (.cells #[] tU)) base (.slice (some ⟨w.heap.size,0,none⟩) 0 0) []:=
 ⟨Limbs.nil,by simp,.inr ⟨w.heap.size,0,#[],rfl,h,heap_alloc_new w _,Nat.le_refl _,by simp [maxLen],rfl,rfl⟩⟩
theorem OwnL.alloc {w : World} {base : Nat} {v : Value} {xs : List Nat} (h : OwnL w base v xs) (o : Obj) : OwnL (w.alloc o) base v xs:=⟨h.1,h.2.alloc o⟩
theorem OwnL.keep {w w' : World} {base : Nat} {v : Value} {xs : List Nat} (h : OwnL w base v xs) (hb : Below w.heap.size w w') : OwnL w' base v xs:=
 ⟨h.1,h.2.kept (row:=none) ⟨hb.os,hb.tape,hb.output,hb.size,fun k hk _=>hb.block k hk⟩ (by cases hv : v.ownBlock <;> simp)⟩
theorem run_append_nil_any {P : Program} {w : World} (base : Nat) (t ty e : TypeId) (i : TypeInfo) (size : Nat) (ht : P.underlying t = some (.slice e)) (hi : P.info? e = some i)
  (v : Value) (n : Nat) (xs : List Value) (hown : w.ownsRow base e size v n xs) (c : Nat) : (Builtin.append_ #[t,t] ty #[v,.slice none 0 c]).run P w = .ok v w:=by
 rcases hown.2 with ⟨rfl,rfl⟩ | ⟨g,cap,cur,rfl,_,_,hnc,_⟩
 ·simp [Builtin.append_,run_underlying ht,sizeOf,typeInfo,hi,Builtin.lenOf,Builtin.firstCells]
 ·simp [Builtin.append_,run_underlying ht,sizeOf,typeInfo,hi,Builtin.lenOf,Builtin.firstCells,hnc,storeCells]
set_option maxRecDepth 20000 in
theorem appU {w : World} {ops : Array Oper} {rest : List Oper} {o : Oper} {a : Act} {Q : Exit→Act→World→Prop} (hgd : o.guard = none) (s x : Operand)
  (ho : o.op = .call { callee:=.builtin .append,args:=#[s,x],argTypes:=#[43,43] })
  (base : Nat) (v : Value) (xs : List Nat) (hs : a.eval s = v) (hown : OwnL w base v xs) (ao : Option Addr) (m c : Nat) (ys : List Nat) (hx : a.eval x = .slice ao m c) (hy : LimbsAt w ao ys) (hm : ys.length = m)
  (hlen : xs.length + m≤35184372088832) (hbase : base≤w.heap.size)
  (h : ∀v' w',OwnL w' base v' (xs ++ ys)→w.grownBy w' v.ownBlock→wpList Tryz.prog ops Q rest (a.put o.dst v') w') : wpList Tryz.prog ops Q (o :: rest) a w:=by
 obtain ⟨i0,hi,hz0,hz1,hz2⟩:=info_parts Tryz.infoU
 cases ao with
 | none=>
  have hy0 : ys = []:=by
   by_cases h0 : ys = []
   ·exact h0
   ·obtain ⟨_,_,_,_,h1,_⟩:=hy.2 h0
    cases h1
  subst hy0
  simp at hm
  subst hm
  refine wpList_plain hgd fun K hK=>?_
  have hrun:=run_append_nil_any (P:=Tryz.prog) (w:=w) base 43 o.type tU i0 1 Tryz.underlying43 hi v xs.length _ hown.2 c
  unfold Oper.wp
  simp only [execOp,ho,resolve,invoke,builtin,Sem.run_bind,Sem.run_pure,Result.andThen_ok,List.map_toArray,List.map_cons,List.map_nil,hs,hx,hrun]
  exact hK _ _ (h v w (by simpa using hown) (World.grownBy.refl w _))
 | some ad=>
  refine wpList_append_own w hgd s x 43 ho base tU i0 _ 1 4 Tryz.underlying43 hi hz0 hz1 hz2 rfl (by omega) v xs.length _ hs hown.2 ad m c (ys.map fun n=>Value.int .u32 (n : Nat)) hx (by simp [hm]) ?_ ?_ (by simp [maxLen]; omega) (by omega) hbase ?_
  ·intro j u hj
   simp only [List.getElem?_map,Option.map_eq_some_iff] at hj
   obtain ⟨x',hj,rfl⟩:=hj
   obtain ⟨b,off,cs,fz,h1,h2,h3⟩:=hy.2 (by rintro rfl; simp at hj)
   injection h1 with h1
   subst h1
   rw [Addr.add_lit,cell_of_row w b (off + j) cs tU fz h2]
   exact h3 j x' hj
  ·intro u hu
   simp only [List.mem_map] at hu
   obtain ⟨x',_,rfl⟩:=hu
   rfl
  ·intro v' w' h1 h2 _
   refine h v' w' ⟨hown.1.append hy.1,?_⟩ h2
   simpa [hm] using h1
def RetList (w : World) (xs : List Nat) (e : Ending) (w' : World) : Prop:=
 ∃ao len cap,e = .returned (.slice ao len cap)∧xs.length = len∧len≤cap∧cap≤9223372036854775807∧LimbsAt w' ao xs∧Below w.heap.size w w'
set_option maxHeartbeats 400000 in
theorem cloneU_any (ao : Option Addr) (n cap : Nat) (xs : List Nat) (w : World) (hn : xs.length = n) (hb : n≤4 * LIM) (hx : LimbsAt w ao xs) :
  Calls Tryz.prog 125 #[.slice ao n cap] w (RetList w xs):=by
 have heq:=fun W=>Lib.run_eql_slice_nil (P:=Tryz.prog) W 43 tU ao n cap 0 0 Tryz.underlying43
 rw [LIM_eq] at hb
 cases ao with
 | none=>
  have hy0 : xs = []:=by
   by_cases h0 : xs = []
   ·exact h0
   ·obtain ⟨_,_,_,_,h1,_⟩:=hx.2 h0
    cases h1
  subst hy0
  clear hn
  go_enter Tryz.func125,Tryz.ntmps125
  go_wp2
  go_ret
  exact ⟨none,0,0,rfl,rfl,by omega,by omega,LimbsAt.nil _ _,Below.refl _ _⟩
 | some ad=>
  have HN:=Lib.hid hn
  clear hn
  go_enter Tryz.func125,Tryz.ntmps125
  go_wp2_with (at_builtin; refine appU rfl _ _ rfl w.heap.size (.slice (some ⟨w.heap.size,0,none⟩) 0 0) [] rfl (OwnL.empty w _ (Nat.le_refl _)) (some ad) n cap xs rfl (hx.ext (lx ((Below.refl _ _).alloc (Nat.le_refl _) _))) HN.out (by simp; omega) (by simp) ?_; intro v' w' hown hgr)
  have hB : Below w.heap.size w w':=((Below.refl _ _).alloc (Nat.le_refl _) _).grown hgr (by simp) (fun k hk=>by simp [Value.ownBlock] at hk; omega)
  go_ret
  obtain ⟨ao',cap',hv,h1,h2,h3⟩:=hown.at_
  exact ⟨ao',_,cap',by rw [hv]; rfl,rfl,h1,h2,h3,hB⟩
end Go.Proofs.YtnocgagoaldfnaaGreat
