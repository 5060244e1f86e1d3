/- Joined. -/
import Derived.Test.YtkidaebmhlijlaaGreatD05
set_option linter.unusedVariables false
set_option linter.unusedSimpArgs false
set_option linter.unusedSectionVars false
set_option maxHeartbeats 16000000
set_option maxRecDepth 100000
variable{xs ys zs:List Nat}{i k:Nat}
namespace Go.Proofs.YtkidaebmhlijlaaGreat
open Go.RowKit
theorem zKI(m:Nat):nat (List.replicate m 0)=0:=by
 induction m with
 |zero=>rfl
 |succ m ih=>rw[List.replicate_succ,zCV,ih];rfl
theorem zJU(hk:k<=zs.length)(h:nat zs<B32^k):nat (zs.drop k)=0:=by
 have h1:=zDA zs k hk;rcases qN (nat (zs.drop k))with h0|h0
 exact h0;have:=zO (B32^k) h0;omega
theorem zJa(hk:k<zs.length)(h:nat zs<B32^k):zs.getD k 0=0:=by
 have h1:=zJU (zAp hk) h;have h2:=zCt zs k hk;omega
theorem zXS{zs0:List Nat}{x:Nat}(h0:nat zs0=nat (xs.take i)*nat ys)(hx:xs.getD i 0=x)(hd:zs.drop (i+k)=zs0.drop (i+k))(hl:i+k<=zs.length)(hl0:i+k<=zs0.length)
  (h:nat (zs.take (i+k))+0*B32^(i+k)=nat (zs0.take (i+k))+x*B32^i*nat (ys.take k)) (hk:ys.length<=k):nat zs=nat (xs.take (i+1))*nat ys:=by
 have h1:=zDA zs (i+k) hl;have h2:=zDA zs0 (i+k) hl0;rw[yG ys hk,zBO,zAa]at h;rw[h1,h,hd,jF,hx,zZ,<-h0,h2];omega
theorem zS0{n2:Nat}(hx:zA6 xs)(hy:zA6 ys)(h2:ys.length<=n2):nat (xs.take i)*nat ys<B32^(i+n2):=by
 have h1:=zEK (hx.take i);have h3:=zEK hy;have h4:B32^(xs.take i).length<=B32^i:=zQ zCk (by simp;omega);have h5:B32^ys.length<=B32^n2:=zQ zCk h2;rw[yD];exact Nat.mul_lt_mul_of_lt_of_le oM oM (qR zCk)
theorem zTV(v1 v2:Value)(z1 z2:Int)(w:World)(h1:jY w v1 z1)(h2:jY w v2 z2)(s1:Sm z1)(s2:Sm z2):CPq 44 #[v1,v2] w (zDp w (z1*z2)):=by
 obtain⟨neg1,ao1,n1,cap1,xs,rfl,hn1,hl1,hc1,hx1,hN1,hz1,hp1,hq1⟩:=h1.len s1;obtain⟨neg2,ao2,n2,cap2,ys,rfl,hn2,hl2,hc2,hx2,hN2,hz2,hp2,hq2⟩:=h2.len s2;have HN1:=zI hn1;have HN2:=zI hn2;have HZ1:=zI hz1;have HZ2:=zI hz2;have hlen1:xs.length<=n1:=oM;have hlen1':n1<=xs.length:=oM;have hlen2:ys.length<=n2:=oM;have hlen2':n2<=ys.length:=oM;clear hn1 hn2 hz1 hz2 s1 s2 h1 h2 hp1 hp2;rw[zC0]at hq1 hq2;have hmk:=fun W=>mkU ((n1:Int)+n2+1) (n1+n2+1) oM oM W
 go_enter Tryz.func44,Tryz.ntmps44;go_upto_region 1 with(fail)
 refine zD ?_;intro W0 hW0;obtain⟨hB0,bx1,bx2,br,hs0⟩:=zBk hW0;have c1:=bx1.two;have d1:=bx2.two;go_upto_block 0 with(fail)
 clear hmk;refine zD ?_;intro W1 hW1;obtain⟨gz,hgz⟩:∃g,W0.heap.size=g:=⟨_,rfl⟩;have hblk1:zCz W1 gz (List.replicate (n1+n2+1) 0):=by rw[hW1.out,<-hgz];exact zCz.made _ _
 have hb1:BWq W0 W1:=by rw[hW1.out];exact(zA _ _).alloc (xgf _) _
 have hgz':W0.heap.size<=gz:=oM;have hx1':=hx1.ext (lx hB0);have hx2':=hx2.ext (lx hB0);rw[hgz];clear c1 d1 hW1 hW0 hgz;go_wp2;go_loopw [6] (fun iv wr=>∃(i:Nat) (zs:List Nat),i<=n1/\iv=niq i/\zCz wr gz zs/\BWq W0 wr/\n1+n2+1<=zs.length∧
   Hid (zs.length=n1+n2+1/\zA6 zs/\nat zs=nat (xs.take i)*nat ys)) (fun iv _=>n1-(intOf iv).toNat)
 case atStart=>exact⟨0,_,oM,rfl,hblk1,hb1,by simp,⟨by simp,fun x hx=>by rw[List.eq_of_mem_replicate hx];exact zCk,by rw[zKI,jI,nat_nil,zBO]⟩⟩
 obtain⟨i,zs0,hi,rfl,hblk0,hbel0,hlz0,HH0⟩:=hrel;obtain⟨wo,rfl⟩:∃wo:World,wo=wr:=⟨_,rfl⟩;obtain⟨c1,c2,c3,c4⟩:=(bx1.below hbel0).two;obtain⟨d1,d2,d3,d4⟩:=(bx2.below hbel0).two;by_cases hin:i<n1
 ·obtain⟨b,off,x,rfl,hbw,hx32,HX,hck⟩:=hx1'.limb (k:=i) oM
  go_wp2;go_loopw [7,8] (fun cv kv wr=>∃(k c:Nat) (zs:List Nat),k<=n2+1/\kv=niq k/\cv= .int .u64 c/\c<4294967296/\(k=n2+1->c=0)/\zCz wr gz zs/\BWq W0 wr/\n1+n2+1<=zs.length∧
    Hid (zs.length=n1+n2+1/\zA6 zs/\zs.drop (i+k)=zs0.drop (i+k)/\nat (zs.take (i+k))+c*B32^(i+k)=nat (zs0.take (i+k))+x*B32^i*nat (ys.take k))) (fun _ kv _=>n2+1-(intOf kv).toNat)
  case atStart=>exact⟨0,0,zs0,oM,rfl,rfl,oM,oM,hblk0,hbel0,hlz0,⟨HH0.out.1,HH0.out.2.1,rfl,by simp⟩⟩
  obtain⟨k,c,zs,hk,rfl,rfl,hc,hkc,hblk,hbel,hlz,HH⟩:=hrel;obtain⟨wo2,rfl⟩:∃wo2:World,wo2=wr:=⟨_,rfl⟩;clear c1 c2 c3 c4 d1 d2 d3 d4;obtain⟨c1,c2,c3,c4⟩:=(bx1.below hbel).two;obtain⟨d1,d2,d3,d4⟩:=(bx2.below hbel).two;have hck':=(hbel.cell (p:=⟨b,off+i,none⟩) hbw).trans hck;have hfr:=hblk.frozen (i+k);by_cases hexit:n2<=k/\c=0
  ·obtain⟨hk2,rfl⟩:=hexit
   have hnl:¬ k<n2:=oM;go_wp2;go_roundw
   case rel=>exact⟨i+1,zs,oM,by go_num,hblk,hbel,hlz,⟨HH.out.1,HH.out.2.1,zXS HH0.out.2.2 HX.out HH.out.2.2.1 (by have:=HH.out.1;omega) (by have:=HH0.out.1;omega) HH.out.2.2.2 oM⟩⟩
   case measure=>exact meq
  obtain⟨z,HZ⟩:∃z,zs.getD (i+k) 0=z:=⟨_,rfl⟩;have hz32:z<4294967296:=by rw[<-HZ];exact HH.out.2.1.get _
  have hcz:=hblk.cell (k:=i+k) oM;rw[HZ]at hcz;have HZ:=zI HZ;by_cases hkn:k<n2
  ·obtain⟨b2,off2,y,rfl,hbw2,hy32,HY,hcy⟩:=hx2'.limb (k:=k) oM
   have hcy':=(hbel.cell (p:=⟨b2,off2+k,none⟩) hbw2).trans hcy;clear hcy;have hm1:=zHl hx32 hy32;obtain⟨hm2,hm3⟩:=zHm hx32 hy32;go_wp2;have hlt:c+(x*y+z)<18446744073709551616:=by generalize x*y=m at*;omega
   go_quiet (fail);have ec:(((c+(x*y+z))/4294967296:Nat):Int)=((c:Int)+(z:Int)+(x:Int)*(y:Int))/4294967296:=by
    simp only[Int.natCast_ediv,Int.natCast_add,Int.natCast_mul];congr 1;omega
   have em:(((c+(x*y+z))%4294967296:Nat):Int)=((c:Int)+(z:Int)+(x:Int)*(y:Int))%4294967296:=by
    simp only[Int.natCast_emod,Int.natCast_add,Int.natCast_mul];congr 1;omega
   have hcl:(c+(x*y+z))/4294967296<4294967296:=by generalize x*y=m at*;omega
   go_wp2;go_roundw
   case rel=>
    refine⟨k+1,(c+(x*y+z))/4294967296,zs.set (i+k) ((c+(x*y+z))%4294967296),oM,by go_num,by rw[ec],hcl,oM,zCz.set' (w:=wo2.drewN _) hblk _ _ _ (by rw[<-em]),(nx hbel (drN _ _)).setCell hgz' _,by simpa using hlz,
     ⟨by simpa using HH.out.1,HH.out.2.1.set _ _ (yH _ oM),?_,zIS HH.out.2.2.2 oM HY.out HZ.out ((zEs HH.out.2.2.1 (xgf _)).symm.trans HZ.out)⟩⟩
    rw[show i+(k+1)=i+k+1 from rfl,zDf];exact zF1 HH.out.2.2.1
   case measure=>exact meq
  have hcp:0<c:=oM;obtain rfl:n2=k:=oM;go_wp2;have hz0:z=0:=by
   have h0:=HH0.out.2.2;have h1:nat zs0<B32^(i+n2):=by
    rw[h0];exact zS0 hx1.1 hx2.1 hlen2
   have h2:=zJa (k:=i+n2) oM h1;rw[<-HZ.out];refine Eq.trans ?_ h2;exact zEs HH.out.2.2.1 (xgf _)
  have hd0:(c+z)/4294967296=0:=oM;have ec:(((c+z)/4294967296:Nat):Int)=((c:Int)+(z:Int))/4294967296:=by simp
  have em:(((c+z)%4294967296:Nat):Int)=((c:Int)+(z:Int))%4294967296:=by simp
  go_roundw
  case rel=>
   have hts:=zIS HH.out.2.2.2 oM (zF3 hlen2) HZ.out ((zEs HH.out.2.2.1 (xgf _)).symm.trans HZ.out);rw[zCJ,zAR]at hts;refine⟨n2+1,(c+z)/4294967296,zs.set (i+n2) ((c+z)%4294967296),oM,by go_num,by rw[ec],oM,fun _=>hd0,hblk.set' _ _ _ (by rw[<-em]),hbel.setCell hgz' _,by simpa using hlz,
    ⟨by simpa using HH.out.1,HH.out.2.1.set _ _ (yH _ oM),?_,hts⟩⟩
   rw[show i+(n2+1)=i+n2+1 from rfl,zDf];exact zF1 HH.out.2.2.1
  case measure=>simp[intOf]
 obtain rfl:n1=i:=oM;go_wp2_with fail
 refine(zFY _ _ _ zs0 (neg1 !=neg2) _ HH0.out.1 (xgf _) oM (by rw[zC0];omega) (hblk0.at_ HH0.out.2.1)).mono ?_;rintro e w2 ⟨v,rfl,hv,hb2⟩;have br2:=(br.below hbel0).below hb2;have e1:=br2.two;obtain⟨vn,va,vl,vc,vx,rfl,hv2⟩:=hv;go_wp2_with fail
 refine jH rfl rfl rfl (br2.put2 _ _) ?_ (yJ (yJ (nx (nx hB0 hbel0) hb2) oM 0 _) oM 1 _);refine jY.ext ?_ (br2.lext2 dE _ _);rw[HH0.out.2.2,yG xs hlen1]at hv2;rw[HZ1.out,HZ2.out,<-zTr];exact⟨vn,va,vl,vc,vx,rfl,hv2⟩

def zZu(w:World)(a b:Nat)(e:Ending)(w':World):Prop:=
 ∃v z,e= .returned v/\jY w' v (z:Nat)/\0<z/\z*b<=a/\BWq w w'
end Go.Proofs.YtkidaebmhlijlaaGreat
