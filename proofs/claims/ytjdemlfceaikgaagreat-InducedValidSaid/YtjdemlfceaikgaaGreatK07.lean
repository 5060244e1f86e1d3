/- The reference's integers, sixth part: Mul. The reference's integers, seventh part: short. The reference's integers, eighth part: estimate. -/
import Derived.Test.YtjdemlfceaikgaaGreatK05
set_option linter.unusedVariables false
set_option linter.unusedSimpArgs false
set_option linter.unusedSectionVars false
namespace Go.Proofs.YtjdemlfceaikgaaGreat
open Go.RowKit
theorem nat_replicate0 (m : Nat) : nat (List.replicate m 0) = 0:=by
 induction m with
 | zero=>rfl
 | succ m ih=>rw [List.replicate_succ,nat_cons,ih]; rfl
theorem drop_zero_of_lt {zs : List Nat} {k : Nat} (hk : k<=zs.length) (h : nat zs < B32 ^ k) : nat (zs.drop k) = 0:=by
 have h1:=nat_split zs k hk
 rcases Nat.eq_zero_or_pos (nat (zs.drop k)) with h0 | h0
 ·exact h0
 ·have:=Nat.le_mul_of_pos_right (B32 ^ k) h0; omega
theorem getD_zero_of_lt {zs : List Nat} {k : Nat} (hk : k < zs.length) (h : nat zs < B32 ^ k) : zs.getD k 0 = 0:=by
 have h1:=drop_zero_of_lt (Nat.le_of_lt hk) h
 have h2:=nat_drop_get zs k hk
 omega
theorem mul_row {xs zs zs0 ys : List Nat} {i k : Nat} {x : Nat} (h0 : nat zs0 = nat (xs.take i) * nat ys) (hx : xs.getD i 0 = x) (hd : zs.drop (i + k) = zs0.drop (i + k)) (hl : i + k<=zs.length) (hl0 : i + k<=zs0.length)
  (h : nat (zs.take (i + k)) + 0 * B32 ^ (i + k) = nat (zs0.take (i + k)) + x * B32 ^ i * nat (ys.take k)) (hk : ys.length<=k) : nat zs = nat (xs.take (i + 1)) * nat ys:=by
 have h1:=nat_split zs (i + k) hl
 have h2:=nat_split zs0 (i + k) hl0
 rw [nat_take_all ys hk,Nat.zero_mul,Nat.add_zero] at h
 rw [h1,h,hd,nat_take_succ,hx,Nat.add_mul,<-h0,h2]
 omega
theorem mul_bound {xs ys : List Nat} {i n2 : Nat} (hx : Limbs xs) (hy : Limbs ys) (h2 : ys.length<=n2) : nat (xs.take i) * nat ys < B32 ^ (i + n2):=by
 have h1:=nat_lt (hx.take i)
 have h3:=nat_lt hy
 have h4 : B32 ^ (xs.take i).length<=B32 ^ i:=Nat.pow_le_pow_right B32_pos (by simp; omega)
 have h5 : B32 ^ ys.length<=B32 ^ n2:=Nat.pow_le_pow_right B32_pos h2
 rw [Nat.pow_add]
 exact Nat.mul_lt_mul_of_lt_of_le oM oM (Nat.pow_pos B32_pos)
set_option maxHeartbeats 2000000 in
set_option maxRecDepth 20000 in
theorem r1mul_any (v1 v2 : Value) (z1 z2 : Int) (w : World) (h1 : IntV w v1 z1) (h2 : IntV w v2 z2) (s1 : Sm z1) (s2 : Sm z2) : Calls Tryz.prog 72 #[v1,v2] w (RetInt w (z1 * z2)):=by
 obtain ⟨neg1,ao1,n1,cap1,xs,rfl,hn1,hl1,hc1,hx1,hN1,hz1,hp1,hq1⟩:=h1.len s1
 obtain ⟨neg2,ao2,n2,cap2,ys,rfl,hn2,hl2,hc2,hx2,hN2,hz2,hp2,hq2⟩:=h2.len s2
 have HN1:=Lib.hid hn1
 have HN2:=Lib.hid hn2
 have HZ1:=Lib.hid hz1
 have HZ2:=Lib.hid hz2
 have hlen1 : xs.length<=n1:=by omega
 have hlen1' : n1<=xs.length:=by omega
 have hlen2 : ys.length<=n2:=by omega
 have hlen2' : n2<=ys.length:=by omega
 clear hn1 hn2 hz1 hz2 s1 s2 h1 h2 hp1 hp2
 rw [LIM_eq] at hq1 hq2
 have hmk:=fun W=>mkU ((n1 : Int) + n2 + 1) (n1 + n2 + 1) oM oM W
 go_enter Tryz.func72,Tryz.ntmps72
 go_upto_region 1 with (fail)
 refine wp_world ?_
 intro W0 hW0
 obtain ⟨hB0,bx1,bx2,br,hs0⟩:=world3 hW0
 obtain ⟨c1,c2,c3,c4⟩:=bx1.two
 obtain ⟨d1,d2,d3,d4⟩:=bx2.two
 go_upto_block 0 with (fail)
 clear hmk
 refine wp_world ?_
 intro W1 hW1
 obtain ⟨gz,hgz⟩ : ∃g,W0.heap.size = g:=⟨_,rfl⟩
 have hblk1 : LBlk W1 gz (List.replicate (n1 + n2 + 1) 0):=by rw [hW1.out,<-hgz]; exact LBlk.made _ _
 have hb1 : Below W0.heap.size W0 W1:=by rw [hW1.out]; exact (Below.refl _ _).alloc (Nat.le_refl _) _
 have hgz' : W0.heap.size<=gz:=by omega
 have hx1':=hx1.ext (lx hB0)
 have hx2':=hx2.ext (lx hB0)
 rw [hgz]
 clear c1 c2 c3 c4 d1 d2 d3 d4 hW1 hW0 hgz
 go_wp2
 go_loopw [6] (fun iv wr=>∃(i : Nat) (zs : List Nat),i<=n1/\iv = .int .i64 i/\LBlk wr gz zs/\Below W0.heap.size W0 wr/\n1 + n2 + 1<=zs.length ∧
   Hid (zs.length = n1 + n2 + 1/\Limbs zs/\nat zs = nat (xs.take i) * nat ys)) (fun iv _=>n1 - (intOf iv).toNat)
 case atStart=>exact ⟨0,_,by omega,rfl,hblk1,hb1,by simp,⟨by simp,fun x hx=>by rw [List.eq_of_mem_replicate hx]; exact B32_pos,by rw [nat_replicate0,List.take_zero,nat_nil,Nat.zero_mul]⟩⟩
 case round=>
  obtain ⟨i,zs0,hi,rfl,hblk0,hbel0,hlz0,HH0⟩:=hrel
  obtain ⟨wo,rfl⟩ : ∃wo : World,wo = wr:=⟨_,rfl⟩
  obtain ⟨c1,c2,c3,c4⟩:=(bx1.below hbel0).two
  obtain ⟨d1,d2,d3,d4⟩:=(bx2.below hbel0).two
  by_cases hin : i < n1
  ·obtain ⟨b,off,x,rfl,hbw,hx32,HX,hck⟩:=hx1'.limb (k:=i) oM
   go_wp2
   go_loopw [7,8] (fun cv kv wr=>∃(k c : Nat) (zs : List Nat),k<=n2 + 1/\kv = .int .i64 k/\cv = .int .u64 c/\c < 4294967296/\(k = n2 + 1->c = 0)/\LBlk wr gz zs/\Below W0.heap.size W0 wr/\n1 + n2 + 1<=zs.length ∧
     Hid (zs.length = n1 + n2 + 1/\Limbs zs/\zs.drop (i + k) = zs0.drop (i + k)/\nat (zs.take (i + k)) + c * B32 ^ (i + k) = nat (zs0.take (i + k)) + x * B32 ^ i * nat (ys.take k))) (fun _ kv _=>n2 + 1 - (intOf kv).toNat)
   case atStart=>exact ⟨0,0,zs0,by omega,rfl,rfl,by omega,by omega,hblk0,hbel0,hlz0,⟨HH0.out.1,HH0.out.2.1,rfl,by simp⟩⟩
   case round=>
    obtain ⟨k,c,zs,hk,rfl,rfl,hc,hkc,hblk,hbel,hlz,HH⟩:=hrel
    obtain ⟨wo2,rfl⟩ : ∃wo2 : World,wo2 = wr:=⟨_,rfl⟩
    clear c1 c2 c3 c4 d1 d2 d3 d4
    obtain ⟨c1,c2,c3,c4⟩:=(bx1.below hbel).two
    obtain ⟨d1,d2,d3,d4⟩:=(bx2.below hbel).two
    have hck':=(hbel.cell (p:=⟨b,off + i,none⟩) hbw).trans hck
    have hfr:=hblk.frozen (i + k)
    by_cases hexit : n2<=k/\c = 0
    ·obtain ⟨hk2,rfl⟩:=hexit
     have hnl : ¬ k < n2:=by omega
     go_wp2
     go_roundw
     case rel=>exact ⟨i + 1,zs,by omega,by go_num,hblk,hbel,hlz,⟨HH.out.1,HH.out.2.1,mul_row HH0.out.2.2 HX.out HH.out.2.2.1 (by have:=HH.out.1; omega) (by have:=HH0.out.1; omega) HH.out.2.2.2 oM⟩⟩
     case measure=>simp [intOf]; omega
    ·obtain ⟨z,HZ⟩ : ∃z,zs.getD (i + k) 0 = z:=⟨_,rfl⟩
     have hz32 : z < 4294967296:=by rw [<-HZ]; exact HH.out.2.1.get _
     have hcz:=hblk.cell (k:=i + k) oM
     rw [HZ] at hcz
     have HZ:=Lib.hid HZ
     by_cases hkn : k < n2
     ·obtain ⟨b2,off2,y,rfl,hbw2,hy32,HY,hcy⟩:=hx2'.limb (k:=k) oM
      have hcy':=(hbel.cell (p:=⟨b2,off2 + k,none⟩) hbw2).trans hcy
      clear hcy
      have hm1:=mul_lt32 hx32 hy32
      obtain ⟨hm2,hm3⟩:=mul_lt32i hx32 hy32
      go_wp2
      have hlt : c + (x * y + z) < 18446744073709551616:=by generalize x * y = m at *; omega
      go_quiet (fail)
      have ec : (((c + (x * y + z)) / 4294967296 : Nat) : Int) = ((c : Int) + (z : Int) + (x : Int) * (y : Int)) / 4294967296:=by
       simp only [Int.natCast_ediv,Int.natCast_add,Int.natCast_mul]; congr 1; omega
      have em : (((c + (x * y + z)) % 4294967296 : Nat) : Int) = ((c : Int) + (z : Int) + (x : Int) * (y : Int)) % 4294967296:=by
       simp only [Int.natCast_emod,Int.natCast_add,Int.natCast_mul]; congr 1; omega
      have hcl : (c + (x * y + z)) / 4294967296 < 4294967296:=by generalize x * y = m at *; omega
      go_wp2
      go_roundw
      case rel=>
       refine ⟨k + 1,(c + (x * y + z)) / 4294967296,zs.set (i + k) ((c + (x * y + z)) % 4294967296),by omega,by go_num,by rw [ec],hcl,by omega,LBlk.set' (w:=wo2.drewN _) hblk _ _ _ (by rw [<-em]),(nx hbel (drN _ _)).setCell hgz' _,by simpa using hlz,
        ⟨by simpa using HH.out.1,HH.out.2.1.set _ _ (Nat.mod_lt _ oM),?_,times_step HH.out.2.2.2 oM HY.out HZ.out ((getD_drop_eq HH.out.2.2.1 (Nat.le_refl _)).symm.trans HZ.out)⟩⟩
       rw [show i + (k + 1) = i + k + 1 from rfl,drop_set_succ]
       exact drop_succ_eq HH.out.2.2.1
      case measure=>simp [intOf]; omega
     ·have hcp : 0 < c:=by omega
      obtain rfl : n2 = k:=by omega
      go_wp2
      have hz0 : z = 0:=by
       have h0:=HH0.out.2.2
       have h1 : nat zs0 < B32 ^ (i + n2):=by
        rw [h0]
        exact mul_bound hx1.1 hx2.1 hlen2
       have h2:=getD_zero_of_lt (k:=i + n2) oM h1
       rw [<-HZ.out]; refine Eq.trans ?_ h2; exact getD_drop_eq HH.out.2.2.1 (Nat.le_refl _)
      have hd0 : (c + z) / 4294967296 = 0:=by omega
      have ec : (((c + z) / 4294967296 : Nat) : Int) = ((c : Int) + (z : Int)) / 4294967296:=by simp
      have em : (((c + z) % 4294967296 : Nat) : Int) = ((c : Int) + (z : Int)) % 4294967296:=by simp
      go_roundw
      case rel=>
       have hts:=times_step HH.out.2.2.2 oM (getD_past hlen2) HZ.out ((getD_drop_eq HH.out.2.2.1 (Nat.le_refl _)).symm.trans HZ.out)
       rw [Nat.mul_zero,Nat.zero_add] at hts
       refine ⟨n2 + 1,(c + z) / 4294967296,zs.set (i + n2) ((c + z) % 4294967296),by omega,by go_num,by rw [ec],by omega,fun _=>hd0,hblk.set' _ _ _ (by rw [<-em]),hbel.setCell hgz' _,by simpa using hlz,
        ⟨by simpa using HH.out.1,HH.out.2.1.set _ _ (Nat.mod_lt _ oM),?_,hts⟩⟩
       rw [show i + (n2 + 1) = i + n2 + 1 from rfl,drop_set_succ]
       exact drop_succ_eq HH.out.2.2.1
      case measure=>simp [intOf]
  ·obtain rfl : n1 = i:=by omega
   go_wp2_with fail
   refine (made_any _ _ _ zs0 (neg1 != neg2) _ HH0.out.1 (Nat.le_refl _) oM (by rw [LIM_eq]; omega) (hblk0.at_ HH0.out.2.1)).mono ?_
   rintro e w2 ⟨v,rfl,hv,hb2⟩
   have br2:=(br.below hbel0).below hb2
   obtain ⟨e1,e2,e3,e4⟩:=br2.two
   obtain ⟨vn,va,vl,vc,vx,rfl,hv2⟩:=hv
   go_wp2_with fail
   refine bodyPost_int rfl rfl rfl (br2.put2 _ _) ?_ (bset (bset (nx (nx hB0 hbel0) hb2) oM 0 _) oM 1 _)
   refine IntV.ext ?_ (br2.lext2 dE _ _)
   rw [HH0.out.2.2,nat_take_all xs hlen1] at hv2
   rw [HZ1.out,HZ2.out,<-sgn_mul]
   exact ⟨vn,va,vl,vc,vx,rfl,hv2⟩
set_option maxHeartbeats 400000 in
theorem r1short_any (ao : Option Addr) (n cap : Nat) (xs : List Nat) (d : Nat) (w : World) (hn : xs.length = n) (hb : n<=4 * LIM) (hx : LimbsAt w ao xs) (hd0 : 0 < d) (hd : d < 4294967296) :
  Calls Tryz.prog 178 #[.slice ao n cap,.int .u32 (d : Nat)] w fun e w'=>
   ∃g qs r,e = .returned (.tuple #[.slice (some ⟨g,0,none⟩) n n,.int .u32 (r : Nat)])/\LBlk w' g qs/\Limbs qs/\qs.length = n/\r < d/\nat xs = nat qs * d + r/\Below w.heap.size w w':=by
 have HN:=Lib.hid hn
 have hlen1 : xs.length<=n:=by omega
 have hlen1' : n<=xs.length:=by omega
 clear hn
 rw [LIM_eq] at hb
 have hmk:=fun W=>mkU (n : Int) n oM oM W
 go_enter Tryz.func178,Tryz.ntmps178
 go_wp2
 clear hmk
 go_loopw [7,8] (fun rv i wr=>∃(k r : Nat) (zs : List Nat),k<=n/\i = .int .i64 ((k : Int) - 1)/\rv = .int .u64 r/\r < d/\LBlk wr w.heap.size zs/\Below w.heap.size w wr/\n<=zs.length ∧
   Hid (zs.length = n/\Limbs zs/\nat (xs.drop k) = nat (zs.drop k) * d + r)) (fun _ i _=>(intOf i + 1).toNat)
 case atStart=>exact ⟨n,0,List.replicate n 0,by omega,by go_num,rfl,by omega,LBlk.made _ _,(Below.refl _ _).alloc (Nat.le_refl _) _,by simp,⟨by simp,fun x hx=>by rw [List.eq_of_mem_replicate hx]; exact B32_pos,by rw [List.drop_eq_nil_of_le hlen1,List.drop_eq_nil_of_le sI]; simp⟩⟩
 case round=>
  obtain ⟨k,r,zs,hk,rfl,rfl,hr,hblk,hbel,hlz,HH⟩:=hrel
  cases k with
  | zero=>
   go_wp2
   go_ret2
   refine ⟨_,zs,r,by congr 3,hblk,HH.out.2.1,HH.out.1,hr,by simpa using HH.out.2.2,hbel⟩
  | succ k=>
   have hfr:=hblk.frozen k
   obtain ⟨b,off,x,rfl,hbw,hx32,HX,hck⟩:=hx.limb (k:=k) oM
   have hck':=(hbel.cell (p:=⟨b,off + k,none⟩) hbw).trans hck
   have hcz:=hblk.cell (k:=k) oM
   clear hck
   have hq : (r * 4294967296 + x) / d < 4294967296:=by
    rw [Nat.div_lt_iff_lt_mul hd0]
    have : (r + 1) * 4294967296<=d * 4294967296:=Nat.mul_le_mul_right _ hr
    omega
   have hr' : (r * 4294967296 + x) % d < d:=Nat.mod_lt _ hd0
   have EQ : Hid (((r : Int) * 4294967296 + x) / d = (((r * 4294967296 + x) / d : Nat) : Int)):=by show _ = _; simp
   have ER : Hid (((r : Int) * 4294967296 + x) % d = (((r * 4294967296 + x) % d : Nat) : Int)):=by show _ = _; simp
   go_wp2
   go_roundw
   case rel=>exact ⟨k,(r * 4294967296 + x) % d,zs.set k ((r * 4294967296 + x) / d),by omega,by go_num,by rw [ER.out],hr',hblk.set' _ _ _ (by rw [EQ.out]; exact wrap32_nat _ hq),hbel.setCell (Nat.le_refl _) _,by simpa using hlz,
     ⟨by simpa using HH.out.1,HH.out.2.1.set _ _ hq,short_step HH.out.2.2 oM oM HX.out⟩⟩
   case measure=>simp [intOf]
theorem est0 {xs ys : List Nat} {n x y : Nat} (hX : xs.length = n + 1) (hY : ys.length = n + 1) (ly : Limbs ys) (hx : xs.getD n 0 = x) (hy : ys.getD n 0 = y) : x / (y + 1) * nat ys<=nat xs:=by
 have h1:=nat_take_succ xs n
 have h2:=nat_take_succ ys n
 rw [nat_take_all _ oM,hx] at h1
 rw [nat_take_all _ oM,hy] at h2
 have h3:=nat_lt (ly.take n)
 have h4 : (ys.take n).length = n:=by simp; omega
 rw [h4] at h3
 have h5 : nat ys<=(y + 1) * B32 ^ n:=by rw [Nat.add_mul,Nat.one_mul]; omega
 have h6 : x / (y + 1) * (y + 1)<=x:=Nat.div_mul_le_self _ _
 calc x / (y + 1) * nat ys<=x / (y + 1) * ((y + 1) * B32 ^ n):=Nat.mul_le_mul_left _ h5
  _ = x / (y + 1) * (y + 1) * B32 ^ n:=by rw [Nat.mul_assoc]
  _<=x * B32 ^ n:=Nat.mul_le_mul_right _ h6
  _<=nat xs:=by omega
theorem est1 {xs ys : List Nat} {m k x x2 y : Nat} (hX : xs.length = m + k + 2) (hY : ys.length = m + 1) (ly : Limbs ys) (hx : xs.getD (m + k + 1) 0 = x) (hx2 : xs.getD (m + k) 0 = x2) (hy : ys.getD m 0 = y) :
  (x * 4294967296 + x2) / (y + 1) * B32 ^ k * nat ys<=nat xs:=by
 have h1:=nat_take_succ xs (m + k + 1)
 have h1':=nat_take_succ xs (m + k)
 have h2:=nat_take_succ ys m
 rw [nat_take_all _ oM,hx,h1',hx2] at h1
 rw [nat_take_all _ oM,hy] at h2
 have h3:=nat_lt (ly.take m)
 have h4 : (ys.take m).length = m:=by simp; omega
 rw [h4] at h3
 have h5 : nat ys<=(y + 1) * B32 ^ m:=by rw [Nat.add_mul,Nat.one_mul]; omega
 have h6 : (x * 4294967296 + x2) / (y + 1) * (y + 1)<=x * 4294967296 + x2:=Nat.div_mul_le_self _ _
 have h7 : (x * 4294967296 + x2) * B32 ^ (m + k)<=nat xs:=by
  rw [Nat.add_mul,h1,Nat.pow_succ,<-B32_eq,Nat.mul_comm (B32 ^ _) B32,<-Nat.mul_assoc x]
  omega
 generalize (x * 4294967296 + x2) / (y + 1) = q at *
 calc q * B32 ^ k * nat ys<=q * B32 ^ k * ((y + 1) * B32 ^ m):=Nat.mul_le_mul_left _ h5
  _ = q * (y + 1) * B32 ^ (m + k):=by rw [Nat.pow_add]; simp only [Nat.mul_assoc,Nat.mul_comm,Nat.mul_left_comm]
  _<=(x * 4294967296 + x2) * B32 ^ (m + k):=Nat.mul_le_mul_right _ h6
  _<=nat xs:=h7
theorem est_nat (k q : Nat) : nat (List.replicate k 0 ++ [q % 4294967296,q / 4294967296]) = q * B32 ^ k:=by
 rw [nat_append,nat_replicate0,Nat.zero_add,List.length_replicate,Nat.mul_comm]
 congr 1
 simp [nat_cons,B32_eq]; omega
theorem OwnL.made0 (w : World) (base k : Nat) (h : base<=w.heap.size) (hk : k<=70368744177664) : OwnL (w.alloc (.cells (limbCells (List.replicate k 0)) tU)) base (.slice (some ⟨w.heap.size,0,none⟩) k k) (List.replicate k 0):=by
 refine ⟨fun x hx=>by rw [List.eq_of_mem_replicate hx]; exact B32_pos,?_⟩
 have:=World.ownsRow_lit (base:=base) (e:=tU) (size:=1) w (limbCells (List.replicate k 0)) k h (by simp [maxLen]; omega) (by simp [limbCells])
 simpa [limbCells] using this
theorem bodyPost_intQ {fn : Func} {a : Act} {w W : World} {z : Int} {r : Nat} {v : Array Value} {p : Tmp} {Q : Ending->World->Prop} (h : fn.results = #[.cell p 66]) (hd : a.defers = [])
  (hp : a.tmps.getD p undef = .pointer (some ⟨r,0,none⟩)) (hb : Blk W r 66 v) (hv : IntV W (.agg v) z) (hbel : Below w.heap.size w W) (hQ : ∀e w',RetInt w z e w'->Q e w') : bodyPost Tryz.prog fn Q .ret a W:=by
 obtain ⟨neg,ao,n,cap,xs,h1,h2⟩:=hv
 injection h1 with h1
 subst h1
 exact bodyPost_ret (results_cell_row h _ W r _ _ _ _ hp hb Tryz.underlying66 rfl (by rw [Tryz.sizeI]; rfl)) hd (hQ _ _ ⟨_,rfl,⟨neg,ao,n,cap,xs,rfl,h2⟩,hbel⟩)
def RetEst (w : World) (a b : Nat) (e : Ending) (w' : World) : Prop:=
 ∃v z,e = .returned v/\IntV w' v (z : Nat)/\0 < z/\z * b<=a/\Below w.heap.size w w'
set_option maxHeartbeats 1000000 in
set_option maxRecDepth 20000 in
theorem r1est_any (ao1 ao2 : Option Addr) (n1 cap1 n2 cap2 : Nat) (xs ys : List Nat) (w : World) (hn1 : xs.length = n1 + 1) (hn2 : ys.length = n2 + 1)
  (hb1 : n1 + 1<=4 * LIM) (hx1 : LimbsAt w ao1 xs) (hx2 : LimbsAt w ao2 ys) (hN : Normal xs) (hle : n2<=n1) (hval : nat ys<=nat xs) :
  Calls Tryz.prog 179 #[.slice ao1 (n1 + 1) cap1,.slice ao2 (n2 + 1) cap2] w (RetEst w (nat xs) (nat ys)):=by
 have HN1:=Lib.hid hn1
 have HN2:=Lib.hid hn2
 have HV:=Lib.hid hval
 have hlen1' : n1 + 1<=xs.length:=by omega
 have hlen2' : n2 + 1<=ys.length:=by omega
 obtain ⟨b1,off1,x,rfl,hbw1,hx32,HX,hcx⟩:=hx1.limb (k:=n1) oM
 obtain ⟨b2,off2,y,rfl,hbw2,hy32,HY,hcy⟩:=hx2.limb (k:=n2) oM
 have hxp : 0 < x:=by have:=hN n1 hn1; rw [HX.out] at this; omega
 clear hn1 hn2 hval hN
 rw [LIM_eq] at hb1
 go_enter Tryz.func179,Tryz.ntmps179
 go_upto_region 1 with (fail)
 refine wp_world ?_
 intro W0 hW0
 obtain ⟨hB0,br,hs0⟩:=world1 hW0
 obtain ⟨d1,d2,d3,d4⟩:=br.two
 have hcx0:=(hB0.cell (p:=⟨b1,off1 + n1,none⟩) hbw1).trans hcx
 have hcy0:=(hB0.cell (p:=⟨b2,off2 + n2,none⟩) hbw2).trans hcy
 clear hcx hcy
 go_quiet (fail)
 by_cases hk : n1 = n2
 ·subst hk
  go_wp2_with fail
  have hq64 : x / (y + 1)<=x:=Nat.div_le_self _ _
  have hmx : wrap64 (max 1 (IntKind.u64.wrap ((x : Int) / ((y : Int) + 1)))) = ((max 1 (x / (y + 1)) : Nat) : Int):=by
   rw [show (x : Int) / ((y : Int) + 1) = ((x / (y + 1) : Nat) : Int) by simp,IntKind.wrap_u64]
   generalize x / (y + 1) = q at *
   simp [wrap64]
   omega
  rw [hmx]
  refine (r1of_any _ _ oM oM).mono ?_
  rintro e w2 ⟨v,rfl,hv,hb2⟩
  have br2:=(br.drewN _).below hb2
  obtain ⟨e1,e2,e3,e4⟩:=br2.two
  obtain ⟨vn,va,vl,vc,vx,rfl,hv2⟩:=hv
  go_wp2_with fail
  refine bodyPost_intQ rfl rfl rfl (br2.put2 _ _) (hv:=IntV.ext ⟨vn,va,vl,vc,vx,rfl,hv2⟩ (br2.lext2 dE _ _)) (hbel:=bset (bset (nx (nx hB0 (drN _ _)) hb2) oM 0 _) oM 1 _) ?_
  rintro e w' ⟨v,rfl,q1,q2⟩
  refine ⟨v,_,rfl,q1,by omega,?_,q2⟩
  rcases Nat.le_total 1 (x / (y + 1)) with h1 | h1
  ·rw [Nat.max_eq_right h1]; exact est0 HN1.out HN2.out hx2.1 HX.out HY.out
  ·rw [Nat.max_eq_left h1,Nat.one_mul]; exact HV.out
 ·obtain ⟨k,rfl⟩ : ∃k,n1 = n2 + k + 1:=⟨n1 - n2 - 1,by omega⟩
  obtain ⟨b3,off3,x2,e3,hbw3,hx32',HX2,hcx2⟩:=hx1.limb (k:=n2 + k) oM
  injection e3 with e3
  injection e3 with e3 e4
  subst e3
  subst e4
  have hcx2:=(hB0.cell (p:=⟨_,off1 + (n2 + k),none⟩) hbw1).trans hcx2
  go_wp2
  have hd : Hid (((x : Int) * 4294967296 + x2) / ((y : Int) + 1) = (((x * 4294967296 + x2) / (y + 1) : Nat) : Int)):=by
   show _ = _
   rw [Int.natCast_ediv,show ((x * 4294967296 + x2 : Nat) : Int) = (x : Int) * 4294967296 + x2 by omega,show ((y + 1 : Nat) : Int) = (y : Int) + 1 by omega]
  have hq64 : (x * 4294967296 + x2) / (y + 1) < 18446744073709551616:=Nat.lt_of_le_of_lt (Nat.div_le_self _ _) oM
  go_quiet (fail)
  rw [hd.out]
  obtain ⟨q,hq⟩ : ∃q,(x * 4294967296 + x2) / (y + 1) = q:=⟨_,rfl⟩
  rw [hq]
  rw [hq] at hq64
  have HQ:=Lib.hid hq
  clear hq hd
  have hmk:=fun W=>mkU ((n2 : Int) + k + 1 + 1 - (n2 + 1) - 1) k oM oM W
  have hqp : 0 < q:=by
   rw [<-HQ.out]
   exact Nat.div_pos oM oM
  clear d1 d2 d3 d4
  go_wp2_with (at_builtin; refine appU rfl _ _ rfl W0.heap.size (.slice (some ⟨W0.heap.size,0,none⟩) k k) (List.replicate k 0) rfl ?h1 _ 2 2 [q % 4294967296,q / 4294967296] rfl ?h2 rfl ?h3 ?h4 ?h5)
  case h1=>exact ((OwnL.made0 (W0.drewN _) W0.heap.size k (Nat.le_refl _) oM).alloc _)
  case h2=>
   refine limbs2 (m:=(q : Int) % 4294967296) (k:=(q : Int) / 4294967296) ?_ oM oM sI sI
   exact (world2 (w:=W0.drewN _) (A:=limbCells (List.replicate k 0)) (T1:=tU) (B:=#[.int .u32 ((q : Int) % 4294967296),.int .u32 ((q : Int) / 4294967296)]) (T2:=tU) (W0:=_) rfl).2.2.1
  case h3=>simp; omega
  case h4=>simp; omega
  case h5=>
   intro v' w' hown hgr
   have hbw' : Below W0.heap.size W0 w':=by
    refine Below.grown (w:=_) ?_ hgr (by simp; omega) (fun g hg=>by simp [Value.ownBlock] at hg; omega)
    exact ((drN W0 _).alloc (Nat.le_refl _) _).alloc sI _
   obtain ⟨ao',cap',rfl,q1,q2,q3⟩:=hown.at_
   go_wp2_with fail
   have hlen : (List.replicate k 0 ++ [q % 4294967296,q / 4294967296]).length = k + 2:=by simp
   have hz:=est_nat k q
   generalize List.replicate k 0 ++ [q % 4294967296,q / 4294967296] = zs at *
   have hM:=made_any ao' (k + 2) cap' zs false w' hlen oM q2 (by rw [LIM_eq]; omega) q3
   rw [hz] at hM
   refine hM.mono ?_
   rintro e w2 ⟨v,rfl,hv,hb2⟩
   have br2:=(br.below hbw').below hb2
   obtain ⟨e1,e2,e3,e4⟩:=br2.two
   obtain ⟨vn,va,vl,vc,vx,rfl,hv2⟩:=hv
   go_wp2_with fail
   refine bodyPost_intQ (z:=((q * B32 ^ k : Nat) : Int)) rfl rfl rfl (br2.put2 _ _) (hv:=IntV.ext ⟨vn,va,vl,vc,vx,rfl,hv2⟩ (br2.lext2 dE _ _)) (hbel:=bset (bset (nx (nx hB0 hbw') hb2) oM 0 _) oM 1 _) ?_
   rintro e w' ⟨v,rfl,q1,q2⟩
   exact ⟨v,_,rfl,q1,Nat.mul_pos hqp (Nat.pow_pos B32_pos),by rw [<-HQ.out]; exact est1 HN1.out HN2.out hx2.1 HX.out HX2.out HY.out,q2⟩
end Go.Proofs.YtjdemlfceaikgaaGreat
