/- hermite: (*work).run. smith: work.divide. smith: the parts of work.run. smith: work.run. slices.Index, slices.Contains; matrix.Equal's comparison; combine to bools. matrix.combine to bools, to integers, to rows; Scale's closures. matrix.combine to rows; matrix.valid, sizes, slices.Equal. -/
import Derived.Test.YtgnmdddaiefooaaGreatR25
import Derived.Test.YtgnmdddaiefooaaGreatR26
import Derived.Test.YtgnmdddaiefooaaGreatR27
set_option linter.unusedVariables false
set_option linter.unusedSimpArgs false
set_option linter.unusedSectionVars false
set_option maxHeartbeats 16000000
set_option maxRecDepth 100000
namespace Go.Proofs.YtgnmdddaiefooaaGreat
open Go.RowKit
theorem zE6{e0:Bool}{Z:Nat->Prop}{bw Cs Ct:Nat}{Ah:Value}{x:Bst}{w:World}(h:zAj e0 Z w bw Ah 0 Cs Ct x):
  Calls Tryz.prog 124 #[Ah,.agg (zAx bw)] w fun e w'=>e= .returned (.slice none 0 0)/\Below w.heap.size w w':=by
 obtain⟨bss0,hw0,-⟩:=h.wri;obtain⟨so,sn,scap,rfl,s1,-⟩:=id (zJ.rows hw0);have e2:0=sn:=by rw[<-s1];simp[genM]
 subst e2;clear s1 hw0 bss0 h;go_enter Tryz.func124,Tryz.ntmps124;go_upto_region 1 with(fail)
 refine zC ?_;intro W0 hW0;obtain⟨hB0,T3,hs0⟩:=zN hW0;clear hW0;go_wp2;go_loopw [5,12] (fun pv mv wr=>pv= .slice none 0 0/\mv= .int .i64 0/\Below w.heap.size w wr) (fun _ mv _=>0)
 case atStart=>exact⟨rfl,rfl,hB0⟩
 case round=>
  obtain⟨rfl,rfl,hb⟩:=hrel;go_wp2;go_ret;exact⟨rfl,hb⟩
theorem zFm{e0:Bool}{Z:Nat->Prop}{B:Nat}(hB:BSd B){bw n Cs Ct:Nat}{Ah:Value}{x:Bst}{w:World}{J J':Nat->Bst->List (Nat × Nat)->Prop}(hE:zOK B n Cs Ct J J')(h:zAj e0 Z w bw Ah n Cs Ct x)(h0:J 0 x [])
  (hn:n<=1000000) (hCs:Cs<=1000000) (hCt:Ct<=1000000) (hZ:∀b,Z b->b<w.heap.size) (hgz:∀g,Ah.ownBlock=some g->¬ Z g):
  Calls Tryz.prog 124 #[Ah,.agg (zAx bw)] w fun e w'=>∃v y L,e= .returned v/\zM Z w w'/\zAj e0 Z w' bw Ah n Cs Ct y/\J n y L/\zDh w' w.heap.size v L:=by
 by_cases hn0:0<n
 ·exact zFn hB hE h h0 hn hCs hCt hn0 hZ hgz
 ·obtain rfl:n=0:=by omega
  refine(zE6 h).mono ?_;rintro e w' ⟨rfl,hb⟩;exact⟨_,x,[],rfl,zM.of Z hb,h.below hb,h0,zDh.nil _ _⟩
theorem zA3.weak{w:World}{a b:Nat}{v:Value}{xs:List Nat}(h:zA3 w b v xs)(hab:a<=b):zA3 w a v xs:=by
 obtain⟨h1,h2,h3⟩:=h;refine⟨h1,h2,?_⟩;rcases h3 with h3|⟨g,cap,cur,rfl,k1,k2⟩
 ·exact .inl h3
 ·exact .inr ⟨g,cap,cur,rfl,by omega,k2⟩
theorem zA3.nil(w:World)(base:Nat):zA3 w base (.slice none 0 0) []:=⟨by simp,rfl,.inl ⟨rfl,rfl⟩⟩
theorem zIJ{e0:Bool}{Z:Nat->Prop}{B:Nat}(hB:BSd B){bw n Cs Ct:Nat}{Ah:Value}{x:Bst}{w:World}{J J':Nat->Bst->List (Nat × Nat)->Prop}(hE:zOK B n Cs Ct J J')(h:zAj e0 Z w bw Ah n Cs Ct x)(h0:J 0 x [])
  (hn:n<=1000000) (hCs:Cs<=1000000) (hCt:Ct<=1000000) (hZ:∀b,Z b->b<w.heap.size) (hgz:∀g,Ah.ownBlock=some g->¬ Z g):
  Calls Tryz.prog 85 #[.pointer (some ⟨bw,0,none⟩)] w fun e w'=>∃v y L,e= .returned v/\zM Z w w'/\zAj e0 Z w' bw Ah n Cs Ct y/\J n y L/\zA3 w' w.heap.size v (L.map (·.1)):=by
 obtain⟨Au,Av,hbw⟩:=h.blk;obtain⟨c1,c2,c3,c4,c5,c6⟩:=hbw.three;have HE:=xgv hE;have HJ0:=xgv h0;have HH:=xgv h;clear h hE h0;go_enter Tryz.func85,Tryz.ntmps85;go_wp2_with fail
 refine(zFm hB HE.out HH.out HJ0.out hn hCs hCt hZ hgz).mono ?_;rintro e w1 ⟨pv,y,Lp,rfl,hO,hz,hJ,hP⟩;obtain⟨hok,hL⟩:=HE.out.ok n y Lp hJ;have HL:=xgv hL;have hlen:Lp.length<=1000000:=Nat.le_trans hL.len hn;have HJ:=xgv hJ;have HP:=xgv hP;have HZ:=xgv hz;obtain⟨ao,lcap,rfl,hlc,hcap,hP0⟩:=hP.piv;have hP0:=xgv hP0;have hsz:=hO.bel.size;clear hJ hP hL hok hz HE HH HJ0 c1 c2 c3 c4 c5 c6 hbw;go_wp2;go_loopw [3,19] (fun u iv wr=>∃k:Nat,iv= .int .i64 k/\k<=Lp.length/\zA3 wr w1.heap.size u ((Lp.take k).map (·.1))/\Below w1.heap.size w1 wr) (fun _ iv _=>Lp.length-(intOf iv).toNat)
 case atStart=>exact⟨0,rfl,by omega,zA3.nil _ _,Below.refl _ _⟩
 case round=>
  obtain⟨k,rfl,hk,ho,hb⟩:=hrel;by_cases hlt:k<Lp.length
  ·obtain⟨bp,_,rfl,-,-⟩:=hP0.out oM
   obtain⟨-,lbp,p1,p2⟩:=(HP.out.below hb).piv.cell hlt;obtain⟨r,hr⟩:∃r,(Lp.getD k (0,0)).1=r:=⟨_,rfl⟩;obtain⟨q,hq⟩:∃q,(Lp.getD k (0,0)).2=q:=⟨_,rfl⟩;have hrn:r<=1000000:=by have:=(HL.out.mem k hlt).1;omega
   rw[hr]at p1;rw[hq]at p2;have htk:(Lp.take (k+1)).map (·.1)=(Lp.take k).map (·.1)++ [r]:=by
    rw[List.take_add_one,List.map_append];congr 1;rw[xgb]at hr;cases hh:Lp[k]? with
    |none=>rw[List.getElem?_eq_none_iff]at hh;omega
    |some p=>rw[hh]at hr;simp at hr;simp[hr]
   have HTK:=xgv htk;have htl:((Lp.take k).map (·.1)).length=k:=by simp;omega
   clear hr hq htk;go_upto_region 5 with(fail)
   refine zC ?_;intro W7 hW7;obtain⟨hB7,T9,hs7⟩:=zN hW7;have T9:Blk W7 wr.heap.size zAf #[.int .i64 r,.int .i64 q]:=T9;have ho7:=ho.below hB7;have hb7:=hb.trans (hB7.mono hb.size);obtain⟨t1,t2,t3,t4⟩:=T9.two;have hys:∀w':World,yZ (w'.alloc (.cells #[.int .i64 r] tNn)) (some ⟨w'.heap.size,0,none⟩) [r]:=fun w'=>⟨by simp;omega,fun _=>⟨_,0,_,rfl,heap_alloc_new w' _,fun k x hk=>by
    match k with
    |0=>simp at hk;subst hk;rfl
    |k+1=>simp at hk⟩⟩
   have h7s:=hb7.size;clear hW7 p1 p2;go_wp2_with (at_builtin;refine zP9 rfl _ _ rfl w1.heap.size u3 ((Lp.take k).map (·.1)) rfl (ho7.alloc _) (some ⟨W7.heap.size,0,none⟩) 1 1 [r] rfl (hys W7) rfl (by rw[htl];omega) (by simp;omega) ?_;intro v' w' hown hgr)
   have hgr:World.grownBy (W7.alloc (.cells #[.int .i64 r] tNn)) w' (Value.ownBlock u3):=hgr;have hB9:Below w1.heap.size w1 w':=(hb7.alloc hb7.size _).grown hgr (by simp;omega) (fun g hg=>(ho.own g hg).1);go_roundw
   case rel=>exact⟨k+1,by simp,by omega,by rw[HTK.out];exact hown,hB9⟩
   case measure=>simp[intOf];omega
  ·obtain rfl:k=Lp.length:=by omega
   go_wp2;go_ret;exact⟨_,y,Lp,rfl,hO.trans (zM.of Z hb),HZ.out.below hb,HJ.out,(by rw[List.take_length]at ho;exact ho.weak hsz)⟩

def okW(B R C Cu Cw:Nat)(z:W5):Prop:=okF B R C z.s/\okF B R Cu z.u/\okF B R Cu z.v/\okF B C Cw z.w/\okF B C Cw z.x
theorem zJ.fresh{w:World}{base:Nat}{A:Value}{C:Nat}{bs:List Nat}{M:List (List Int)}(h:zJ w base A C bs M){b:Nat}(hb:Zn A bs b):base<=b:=by
 rcases hb with hb|hb
 ·obtain⟨k,hk,e⟩:=List.getElem_of_mem hb
  exact(h.row k b (M[k]'(by rw[h.len];exact hk)) (by rw[xga hk,e]) (xga _)).1
 ·rcases h.own.2 with⟨rfl,-⟩|⟨g,cap,cur,rfl,h2,-⟩
  ·cases hb
  ·simp only[Value.ownBlock,Option.some.injEq]at hb
   omega
section
variable {w w':World} {base wb RS CS R C Cu Cw:Nat} {AS AU AV AW AX:Value} {bS bU bV bW bX:List Nat} {z:W5}
end
theorem Wri.shape{w:World}{A:Value}{R C:Nat}{bs:List Nat}{F:Nat->Nat->Int}(h:Wri w A R C bs F):∃o c,A= .slice o R c:=by
 obtain⟨so,sn,sc,rfl,s1,-⟩:=id (zJ.rows h);obtain rfl:R=sn:=by rw[<-s1];simp[genM]
 exact⟨_,_,rfl⟩
theorem zBo.shape{w:World}{base:Nat}{v:Value}{zs:List Int}(h:zBo w base v zs):∃o c,v= .slice o zs.length c:=by
 obtain⟨cells,h1,-⟩:=h;rcases h1.2 with⟨rfl,h0⟩|⟨g,cap,cur,rfl,-⟩
 ·exact⟨none,0,by rw[h0]⟩
 ·exact⟨_,_,rfl⟩
abbrev tBo:TypeId:=4
theorem Tryz.infoBo:(Tryz.prog.info? tBo).map (fun i=>(i.zero,i.size,i.bytes))=some (some (.bool false),1,1):=by kernel_rfl
def zD1(n:Nat)(g:Nat->Bool):Array Value:=((List.range n).map fun i=>Value.bool (g i)).toArray
theorem zH9{n:Nat}{g:Nat->Bool}{i:Nat}(h:i<n):(zD1 n g)[i]?=some (.bool (g i)):=by simp[zD1,h]
theorem zLs{n:Nat}{g:Nat->Bool}{i:Nat}{z:Bool}:(zD1 n g).setIfInBounds i (.bool z)=zD1 n (fun t=>if t=i then z else g t):=by
 apply Array.ext
 ·simp[zD1]
 ·intro a h1 h2
  by_cases e:a=i
  ·subst e;simp[zD1]
  ·have:i≠a:=fun h=>e h.symm
   simp[zD1,this,e]
theorem zDK{n:Nat}{f g:Nat->Bool}(h:∀t,t<n->f t=g t):zD1 n f=zD1 n g:=by
 unfold zD1;rw[List.map_congr_left fun t ht=>by rw[h t (List.mem_range.1 ht)]]
theorem zPe(n:Nat):madeCells (Value.bool false).cells (n*1)=zD1 n (fun _=>false):=by
 apply Array.ext
 ·simp[madeCells,zD1]
 ·intro i h1 h2
  simp[madeCells,zD1,Nat.mod_one,Value.cells]
theorem mkB(m:Int)(n:Nat)(hm:m=n)(h:n<=1099511627776)(W:World):
  (Instr.makeSlice 137 (.int .i64 m) (.int .i64 m)).run Tryz.prog W= .ok (.slice (some ⟨W.heap.size,0,none⟩) n n) (W.alloc (.cells (zD1 n (fun _=>false)) tBo)):=by
 subst hm;obtain⟨i0,hi,hz0,hz1,hz2⟩:=info_parts Tryz.infoBo;have:=zAl (P:=Tryz.prog) 137 tBo i0 _ Tryz.underlying137 hi hz0 .i64 .i64 n n (xgf _) (by rw[hz2];omega) oM W;rw[this,hz1,zPe]
theorem zKS(b n cap:Nat)(g:Nat->Bool)(w:World)(h:Blk w b tBo (zD1 n g))(hn:n<=1000000)(hc:n<=cap)(hc2:cap<=9223372036854775807):
  Calls Tryz.prog 140 #[.slice (some ⟨b,0,none⟩) n cap,.bool false] w fun e w'=>(∃r:Int,e= .returned (.int .i64 r)/\((r=-1/\∀i,i<n->g i=true)∨∃i:Nat,r=i/\i<n/\g i=false))/\Below w.heap.size w w':=by
 go_enter Tryz.func140,Tryz.ntmps140;go_wp2;go_loopw [8] (fun iv wr=>∃k:Nat,k<=n/\iv= .int .i64 k/\Below w.heap.size w wr/\qM (∀i,i<k->g i=true)) (fun iv _=>n-(intOf iv).toNat)
 case atStart=>exact⟨0,by omega,rfl,Below.refl _ _,⟨fun i hi=>by omega⟩⟩
 case round=>
  obtain⟨k,hk,rfl,hb,hall⟩:=hrel;have hB:=h.below hb;by_cases hlt:k<n
  ·have c1:=(hB.cell k).trans (zH9 hlt)
   by_cases hg:g k=false
   ·rw[hg]at c1
    have HG:=xgv hg;clear hg;go_wp2;go_ret;exact⟨⟨k,rfl,.inr ⟨k,rfl,hlt,HG.out⟩⟩,hb⟩
   ·have hg':g k=true:=by cases hh:g k with|true=>rfl|false=>exact absurd hh hg
    rw[hg']at c1;have HG:=xgv hg';clear hg hg';go_wp2;go_roundw
    case rel=>
     refine⟨k+1,by omega,by simp,hb,⟨fun i hi=>?_⟩⟩;by_cases e:i=k
     ·rw[e];exact HG.out
     ·exact hall.out i oM
    case measure=>simp[intOf];omega
  ·obtain rfl:k=n:=by omega
   go_wp2;go_ret;exact⟨⟨-1,rfl,.inl ⟨rfl,hall.out⟩⟩,hb⟩
theorem zGY(b n cap:Nat)(g:Nat->Bool)(w:World)(h:Blk w b tBo (zD1 n g))(hn:n<=1000000)(hc:n<=cap)(hc2:cap<=9223372036854775807):
  Calls Tryz.prog 120 #[.slice (some ⟨b,0,none⟩) n cap,.bool false] w fun e w'=>e= .returned (.bool (decide (¬ ∀i,i<n->g i=true)))/\Below w.heap.size w w':=by
 obtain⟨ans,hans⟩:∃ans:Bool,decide (¬ ∀i,i<n->g i=true)=ans:=⟨_,rfl⟩;rw[hans];have HA:=xgv hans;clear hans;go_enter Tryz.func120,Tryz.ntmps120;go_wp2_with fail
 refine(zKS b n cap g w h hn hc hc2).mono ?_;rintro e w1 ⟨⟨r,rfl,hr⟩,hb1⟩;rcases hr with⟨rfl,hall⟩|⟨i,rfl,hi,hg⟩
 ·have HL:=xgv hall
  clear hall;go_wp2;go_ret;refine⟨?_,hb1⟩;have h3:ans=false:=by rw[<-HA.out];exact decide_eq_false (fun hh=>hh HL.out)
  rw[h3];rfl
 ·have HG:=xgv hg
  clear hg;go_wp2;go_ret;refine⟨?_,hb1⟩;have h3:ans=true:=by rw[<-HA.out];exact decide_eq_true (fun hh=>by have h3:=HG.out;rw[hh i hi]at h3;cases h3)
  rw[h3];rfl
theorem zKG(v1 v2:Value)(z1 z2:Int)(w:World)(h1:zR w v1 z1)(h2:zR w v2 z2):
  Calls Tryz.prog 119 #[v1,v2] w fun e w'=>e= .returned (.bool (decide (z1=z2)))/\Below w.heap.size w w':=by
 obtain⟨neg1,ao1,n1,cap1,xs,rfl,i1⟩:=id h1;obtain⟨neg2,ao2,n2,cap2,ys,rfl,i2⟩:=id h2;clear i1 i2;have hd:decide (z1=z2)=decide (qO z1 z2=0):=decide_eq_decide.2 ⟨fun h=>jC h,fun h=>zCr.2.1 h⟩;rw[hd];clear hd;go_enter Tryz.func119,Tryz.ntmps119;go_upto_region 1 with(fail)
 refine zC ?_;intro W0 hW0;obtain⟨hB0,bx1,bx2,hs0⟩:=qK hW0;obtain⟨c1,c2,c3,c4⟩:=bx1.two;obtain⟨d1,d2,d3,d4⟩:=bx2.two;go_wp2_with fail
 refine(zJ0 _ _ z1 z2 W0 (h1.ext (lx hB0)).weak (h2.ext (lx hB0)).weak).mono ?_;rintro e w1 ⟨rfl,hb1⟩;obtain⟨k0,hk0⟩:∃k0,qO z1 z2=k0:=⟨_,rfl⟩;rw[hk0];go_wp2;go_ret;exact⟨by first|rfl|(rw[hk0];rfl)|(rw[hk0];simp),nx hB0 hb1⟩
theorem zOh(v1 v2:Value)(z1 z2:Int)(w:World)(h1:zR w v1 z1)(h2:zR w v2 z2):
  Calls Tryz.prog 119 #[v1,v2] w fun e w'=>∃v,e= .returned v/\v= .bool (decide (z1=z2))/\Below w.heap.size w w':=by
 refine(zKG v1 v2 z1 z2 w h1 h2).mono ?_;rintro e w' ⟨rfl,hb⟩;exact⟨_,rfl,rfl,hb⟩
def zHA(g:Nat->Bool)(j:Nat):Nat->Bool:=fun t=>if t<j then g t else false
theorem zJf{n:Nat}{g:Nat->Bool}{j:Nat}:zD1 n (fun t=>if t=j then g j else zHA g j t)=zD1 n (zHA g (j+1)):=
 zDK fun t _=>by
  unfold zHA;by_cases h:t=j
  ·subst h;rw[if_pos rfl,if_pos oM]
  ·rw[if_neg h]
   by_cases h2:t<j
   ·rw[if_pos h2,if_pos oM]
   ·rw[if_neg h2,if_neg oM]
theorem zJ2(v1 v2:Value)(zs ys:List Int)(n:Nat)(w:World)(h1:zAZ w v1 zs)(h2:zAZ w v2 ys)(hl1:zs.length=n)(hl2:ys.length=n)(hn:n<=1000000):
  Calls Tryz.prog 121 #[v1,v2,.func (.func 119) #[] #[]] w fun e w'=>
   e= .returned (.slice (some ⟨w.heap.size,0,none⟩) n n)/\Blk w' w.heap.size tBo (zD1 n (fun j=>decide (zs.getD j 0=ys.getD j 0)))/\Below w.heap.size w w':=by
 obtain⟨ao,n1,cap,rfl,e1,e3,e4,-⟩:=id h1;obtain⟨bo,n2,bcap,rfl,f1,f3,f4,-⟩:=id h2;obtain rfl:n=n1:=by omega
 obtain rfl:n=n2:=by omega
 have hmk:=fun W=>mkB (n:Int) n rfl oM W
 have HL1:=xgv hl1;have HL2:=xgv hl2;obtain⟨G,hG⟩:∃G:Nat->Bool,(fun j=>decide (zs.getD j 0=ys.getD j 0))=G:=⟨_,rfl⟩;rw[hG];have HG:qM (∀t,G t=decide (zs.getD t 0=ys.getD t 0)):=⟨fun t=>by rw[<-hG]⟩;clear hl1 hl2 e1 f1 hG;go_enter Tryz.func121,Tryz.ntmps121;go_upto_region 2 with(fail)
 refine zC ?_;intro W0 hW0;obtain⟨hB0,bA,hs0⟩:=zN hW0;have hst:zD1 n (fun _=>false)=zD1 n (zHA G 0):=zDK fun t _=>by unfold zHA;rw[if_neg oM]
 rw[hst]at bA;clear hW0 hmk hst;go_wp2;go_loopw [14] (fun jv wr=>∃j:Nat,j<=n/\jv= .int .i64 j/\Below w.heap.size w wr/\Blk wr w.heap.size tBo (zD1 n (zHA G j))) (fun jv _=>n-(intOf jv).toNat)
 case atStart=>exact⟨0,by omega,rfl,hB0,bA⟩
 case round=>
  obtain⟨j,hj,rfl,hb,bA⟩:=hrel;by_cases hlt:j<n
  ·obtain⟨b1,z1,s1,a1,l1,c1,rfl,hbl1,hz1,p1,p2,hv1⟩:=(h1.below hb).cell (k:=j) (by rw[HL1.out];exact hlt)
   obtain⟨b2,z2,s2,a2,l2,c2,rfl,hbl2,hz2,q1,q2,hv2⟩:=(h2.below hb).cell (k:=j) (by rw[HL2.out];exact hlt);have hgj:qM (decide (z1=z2)=G j):=⟨by rw[HG.out,jP hz1,jP hz2]⟩;clear hz1 hz2;have lA:=bA.lt;go_upto_region 5 with(fail)
   refine zB 13 rfl (RI wr (wr.heap.size) _ 51
     [VSl 0 17 w.heap.size n n,VN 1 18 j,E 2 19 (.func (.func 119) #[] #[]),VSl 3 20 b1 n cap,VN 4 21 j,VP 5 22 b1 (j*2),E 6 23 (.agg #[.bool s1,.slice a1 l1 c1]),VSl 7 24 b2 n bcap,VN 8 25 j,VP 9 26 b2 (j*2),E 10 27 (.agg #[.bool s2,.slice a2 l2 c2]),⟨11,28,fun _ v=>v= .bool (decide (z1=z2))⟩,VP 12 29 w.heap.size j] [] []) kR RI.start (RI.fin kR ?fin1) ?steps1
   case steps1=>
    refine⟨?_,?_,?_,?_,?_,?_,?_,?_,?_,?_,?_,?_,?_,trivial⟩<;>(intro L T wS hL hd hcl hI K hK;try refine zA rfl ?_)
    ·exact xgs (hI.k 7 rfl kR)
    ·exact xgs (hI.k 8 rfl kR)
    ·exact xgs (hI.k 2 rfl kR)
    ·exact xgs (hI.k 0 rfl kR)
    ·exact xgs (hI.k 8 rfl kR)
    ·exact xgt (hI.e mm3 (hd 3)) (hI.e mm4 (hd 4))
    ·have zt5:=hI.e mm5 (hd 5)
     have cc0:=hI.cell p1 oM nom;have cc1:=hI.cell p2 oM nom;exact xgu
    ·exact xgs (hI.k 1 rfl kR)
    ·exact xgs (hI.k 8 rfl kR)
    ·exact xgt (hI.e mm7 (hd 7)) (hI.e mm8 (hd 8))
    ·have zt9:=hI.e mm9 (hd 9)
     have cc0:=hI.cell q1 oM nom;have cc1:=hI.cell q2 oM nom;exact xgu
    ·have zt2:=hI.e mm2 (hd 2)
     have zt6:=hI.e mm6 (hd 6);have zt10:=hI.e yD (hd 10);go_simp;refine(zOh _ _ z1 z2 _ (hv1.ext hI.lext) (hv2.ext hI.lext)).mono ?_;rintro e wa ⟨v,rfl,hv,hba⟩;exact hK _ _ ((hI.world hba).y zAB hv)
    ·exact xgt (hI.e mm0 (hd 0)) (hI.e mm1 (hd 1))
   intro w9 hlw9 hbw9 holdw9 T hT;simp only[Fin,E,EI,VP,VSl,VN,xgg,xgh,xgi,xgj]at hT;subst hT;simp only[xgl,xgk];rw[hgj.out];have bA:=bA.below hbw9;have k1:=(bA.cell j).trans (zH9 hlt);have k2:=bA.frozen j;have hset:=bA.set_ j (.bool (G j));rw[zLs,zJf]at hset;clear p1 p2 q1 q2;go_wp2;go_roundw
   case rel=>exact⟨j+1,by omega,by simp,zP (nx hb hbw9) (xgf _) _ _,hset⟩
   case measure=>simp[intOf];omega
  ·obtain rfl:j=n:=by omega
   have hq:zD1 j (zHA G j)=zD1 j G:=zDK fun t ht=>by unfold zHA;rw[if_pos ht]
   rw[hq]at bA;go_wp2;go_ret;exact⟨rfl,bA,hb⟩
theorem zJU(v1 v2:Value)(z k:Int)(kb:Nat)(x y:Value)(w:World)(h1:zR w v1 z)(h2:∃z2,zR w v2 z2)(hk:Blk w kb tI #[x,y])(hkv:zR w (.agg #[x,y]) k)(s1:Sm z)(s2:Sm k):
  Calls Tryz.prog 143 #[v1,v2,.pointer (some ⟨kb,0,none⟩)] w (zAI w (k*z)):=by
 obtain⟨neg1,ao1,n1,cap1,xs,rfl,i1⟩:=id h1;obtain⟨z2,h2⟩:=h2;obtain⟨neg2,ao2,n2,cap2,ys,rfl,i2⟩:=id h2;obtain⟨kn,ka,kl,kc,rfl,rfl⟩:=hkv.two;have HS1:=xgv s1;have HS2:=xgv s2;clear i1 i2 s1 s2 h2;go_enter Tryz.func143,Tryz.ntmps143;go_upto_region 1 with(fail)
 refine zC ?_;intro W0 hW0;obtain⟨hB0,bx1,bx2,br,hs0⟩:=zAS hW0;obtain⟨c1,c2,c3,c4⟩:=bx1.two;obtain⟨d1,d2,d3,d4⟩:=(hk.below hB0).two;go_wp2_with fail
 refine(zBw _ _ k z W0 (hkv.ext (lx hB0)).weak (h1.ext (lx hB0)).weak HS2.out HS1.out).mono ?_;rintro e w1 ⟨v,rfl,hv,hb1⟩;obtain⟨pn,pa,pl,pc,px,rfl,hpx⟩:=id hv;have HPX:=xgw hpx;have br:=br.below hb1;obtain⟨e1,e2,e3,e4⟩:=br.two;clear hpx;go_wp2;exact zU rfl rfl rfl (br.put2 _ _) (hv.ext (br.lext2 dE _ _)) (zP (zP (nx hB0 hb1) oM 0 _) oM 1 _)
theorem zJ3(v1 v2:Value)(zs ys:List Int)(k:Int)(kb n:Nat)(x y:Value)(w:World)(h1:zAZ w v1 zs)(h2:zAZ w v2 ys)(hl1:zs.length=n)(hl2:ys.length=n)(hn:n<=1000000)(hk:Blk w kb tI #[x,y])(hkv:zR w (.agg #[x,y]) k)
  (hS:∀z∈zs,Sm z) (s2:Sm k):
  Calls Tryz.prog 159 #[v1,v2,.func (.func 143) #[] #[.pointer (some ⟨kb,0,none⟩)]] w fun e w'=>
   e= .returned (.slice (some ⟨w.heap.size,0,none⟩) n n)/\qF w' w.heap.size (zQ n (fun j=>k*zs.getD j 0))/\Below w.heap.size w w':=by
 obtain⟨ao,n1,cap,rfl,e1,e3,e4,-⟩:=id h1;obtain⟨bo,n2,bcap,rfl,f1,f3,f4,-⟩:=id h2;obtain rfl:n=n1:=by omega
 obtain rfl:n=n2:=by omega
 have hmk:=fun W=>mkI (n:Int) n rfl oM W
 have HL1:=xgv hl1;have HL2:=xgv hl2;have HS:=xgv hS;have HK:=xgv s2;obtain⟨G,hG⟩:∃G:Nat->Int,(fun j=>k*zs.getD j 0)=G:=⟨_,rfl⟩;rw[hG];have HG:qM (∀t,G t=k*zs.getD t 0):=⟨fun t=>by rw[<-hG]⟩;clear hl1 hl2 e1 f1 hG hS s2;go_enter Tryz.func159,Tryz.ntmps159;go_upto_region 2 with(fail)
 refine zC ?_;intro W0 hW0;obtain⟨hB0,bA,hs0⟩:=zN hW0;have hA:qF W0 w.heap.size (zQ n (qI G (fun _=>0) 0)):=by
  have h4:=zF4 w n;have h5:List.replicate n (0:Int)=zQ n (qI G (fun _=>0) 0):=by
   apply List.ext_getElem
   ·simp[zQ]
   ·intro i h1 h2;simp[zQ,qI]
  rw[h5]at h4;rw[hW0.out];exact h4
 clear hW0 hmk bA;go_wp2;go_loopw [14] (fun jv wr=>∃j:Nat,j<=n/\jv= .int .i64 j/\Below w.heap.size w wr/\qF wr w.heap.size (zQ n (qI G (fun _=>0) j))) (fun jv _=>n-(intOf jv).toNat)
 case atStart=>exact⟨0,by omega,rfl,hB0,hA⟩
 case round=>
  obtain⟨j,hj,rfl,hb,hA⟩:=hrel;by_cases hlt:j<n
  ·obtain⟨b1,z1,s1,a1,l1,c1,rfl,hbl1,hz1,p1,p2,hv1⟩:=(h1.below hb).cell (k:=j) (by rw[HL1.out];exact hlt)
   obtain⟨b2,z2,s2,a2,l2,c2,rfl,hbl2,hz2,q1,q2,hv2⟩:=(h2.below hb).cell (k:=j) (by rw[HL2.out];exact hlt);have hgj:qM (k*z1=G j):=⟨by rw[HG.out,jP hz1]⟩;have S1:qM (Sm z1):=⟨HS.out _ (xgd hz1)⟩;have hkr:=hk.below hb;have hkvr:=hkv.ext (lx hb);have lkb:=hkr.lt;clear hz1 hz2;have lA:=hA.lt;go_upto_region 5 with(fail)
   refine zB 13 rfl (RI wr (wr.heap.size) _ 51
     [VSl 0 17 w.heap.size n n,VN 1 18 j,E 2 19 (.func (.func 143) #[] #[.pointer (some ⟨kb,0,none⟩)]),VSl 3 20 b1 n cap,VN 4 21 j,VP 5 22 b1 (j*2),E 6 23 (.agg #[.bool s1,.slice a1 l1 c1]),VSl 7 24 b2 n bcap,VN 8 25 j,VP 9 26 b2 (j*2),E 10 27 (.agg #[.bool s2,.slice a2 l2 c2]),EI 11 28 (k*z1),VP 12 29 w.heap.size (j*2)] [] []) kR RI.start (RI.fin kR ?fin2) ?steps2
   case steps2=>
    refine⟨?_,?_,?_,?_,?_,?_,?_,?_,?_,?_,?_,?_,?_,trivial⟩<;>(intro L T wS hL hd hcl hI K hK;try refine zA rfl ?_)
    ·exact xgs (hI.k 7 rfl kR)
    ·exact xgs (hI.k 8 rfl kR)
    ·exact xgs (hI.k 2 rfl kR)
    ·exact xgs (hI.k 0 rfl kR)
    ·exact xgs (hI.k 8 rfl kR)
    ·exact xgt (hI.e mm3 (hd 3)) (hI.e mm4 (hd 4))
    ·have zt5:=hI.e mm5 (hd 5)
     have cc0:=hI.cell p1 oM nom;have cc1:=hI.cell p2 oM nom;exact xgu
    ·exact xgs (hI.k 1 rfl kR)
    ·exact xgs (hI.k 8 rfl kR)
    ·exact xgt (hI.e mm7 (hd 7)) (hI.e mm8 (hd 8))
    ·have zt9:=hI.e mm9 (hd 9)
     have cc0:=hI.cell q1 oM nom;have cc1:=hI.cell q2 oM nom;exact xgu
    ·have zt2:=hI.e mm2 (hd 2)
     have zt6:=hI.e mm6 (hd 6);have zt10:=hI.e yD (hd 10);go_simp;refine(zJU _ _ z1 k kb x y _ (hv1.ext hI.lext) ⟨z2,hv2.ext hI.lext⟩ ((hI.old kb oM sI).trans hkr) (hkvr.ext hI.lext) S1.out HK.out).mono ?_;exact xgo
    ·exact xgt (hI.e mm0 (hd 0)) (hI.e mm1 (hd 1))
   intro w9 hlw9 hbw9 holdw9 T hT;simp only[Fin,E,EI,VP,VSl,VN,xgg,xgh,xgi,xgj]at hT;obtain⟨va11,ha11,rfl⟩:=hT;simp only[xgl,xgk];obtain⟨pn,pa,pl,pc,px,rfl,hpx⟩:=id ha11;have HPX:=xgw hpx;have hA:=hA.below hbw9;obtain⟨zs,za,zl,zc,z1,z2,z3,z4,-⟩:=hA.cell (zW hlt);have hset:=hA.set (k:=j) (by rw[zE];exact hlt) ha11;rw[zF9 hgj.out]at hset;clear hpx p1 p2 q1 q2;go_wp2;go_roundw
   case rel=>exact⟨j+1,by omega,by simp,zP (zP (nx hb hbw9) (xgf _) _ _) (xgf _) _ _,hset.1⟩
   case measure=>simp[intOf];omega
  ·obtain rfl:j=n:=by omega
   have hq:zQ j (qI G (fun _=>0) j)=zQ j G:=qA fun t ht=>by unfold qI;rw[if_pos ht]
   rw[hq]at hA;go_wp2;go_ret;exact⟨rfl,hA,hb⟩
abbrev tF:TypeId:=70
def zGK(n0 C:Nat)(zs:List Int):World->Value->Prop:=fun w v=>∃g,v= .slice (some ⟨g,0,none⟩) C C/\n0<=g/\qF w g zs
theorem zI6(n0 C:Nat)(zs:List Int):qQ (zGK n0 C zs):=fun _ _ _ e ⟨g,h1,h2,h3⟩=>⟨g,h1,h2,h3.below e⟩
theorem zKE(v1 v2:Value)(zs ys:List Int)(k:Int)(fb kb n:Nat)(x y:Value)(w:World)(h1:zAZ w v1 zs)(h2:zAZ w v2 ys)(hl1:zs.length=n)(hl2:ys.length=n)(hn:n<=1000000)
  (hf:Blk w fb tF #[.func (.func 143) #[] #[.pointer (some ⟨kb,0,none⟩)]]) (hk:Blk w kb tI #[x,y]) (hkv:zR w (.agg #[x,y]) k) (hS:∀z∈zs,Sm z) (s2:Sm k):
  Calls Tryz.prog 158 #[v1,v2,.pointer (some ⟨fb,0,none⟩)] w fun e w'=>∃v,e= .returned v/\zGK w.heap.size n (zQ n (fun j=>k*zs.getD j 0)) w' v/\Below w.heap.size w w':=by
 have c1:=hf.cell 0;have HS:=xgv hS;have HK:=xgv s2;obtain⟨G,hG⟩:∃G:Nat->Int,(fun j=>k*zs.getD j 0)=G:=⟨_,rfl⟩;rw[hG];have HG:=xgv hG;clear hG hS s2;obtain⟨ao,n1,cap,rfl,-⟩:=id h1;obtain⟨bo,n2,bcap,rfl,-⟩:=id h2;go_enter Tryz.func158,Tryz.ntmps158;go_wp2_with fail
 refine(zJ3 _ _ zs ys k kb n x y w h1 h2 hl1 hl2 hn hk hkv HS.out HK.out).mono ?_;rintro e w1 ⟨rfl,hr,hb1⟩;rw[HG.out]at hr;go_wp2;go_ret;exact⟨_,rfl,⟨_,rfl,xgf _,hr⟩,hb1⟩
theorem zJ.ofPart{w:World}{base g n C:Nat}{bs:List Nat}{M:List (List Int)}(hb:Blk w g tR (qY n C bs))(hl:bs.length=n)(hnd:bs.Nodup)(hr:∀(t b:Nat),bs[t]?=some b->base<=b/\∃r:List Int,M[t]?=some r/\r.length=C/\qF w b r)
  (hM:M.length=n) (hg:base<=g) (hC:C<=1000000) (hn:n<=1000000):zJ w base (.slice (some ⟨g,0,none⟩) n n) C bs M:=by
 have hpr:(qY n C bs).toList=qT C bs:=by simp[qY,hl]
 refine⟨⟨by simp[qT],.inr ⟨g,n,qY n C bs,by rw[hl],hg,hb,by omega,by simp[maxLen];omega,by rw[zAP oM];omega,?_⟩⟩,by rw[hM,hl],?_,hnd,by omega⟩
 ·rw[hpr,hl,Nat.mul_one,List.take_of_length_le (by simp[qT,hl])]
 ·intro t b r ht hr'
  obtain⟨h1,r2,h2,h3,h4⟩:=hr t b ht;rw[h2]at hr';injection hr' with hr'
  subst hr';exact⟨h1,h3,h4⟩
theorem zJ4(A:Value)(M:List (List Int))(R C:Nat)(k:Int)(fb kb:Nat)(x y:Value)(w:World)(h:zCZ w A M)(hF:yG R C M)(hR:R<=1000000)(hC:C<=1000000)
  (hf:Blk w fb tF #[.func (.func 143) #[] #[.pointer (some ⟨kb,0,none⟩)]]) (hk:Blk w kb tI #[x,y]) (hkv:zR w (.agg #[x,y]) k) (hS:∀r∈M,∀z∈r,Sm z) (s2:Sm k):
  Calls Tryz.prog 157 #[A,A,.func (.func 158) #[] #[.pointer (some ⟨fb,0,none⟩)]] w fun e w'=>
   e= .returned (.slice (some ⟨w.heap.size,0,none⟩) R R)/\(∃bs,bs.length=R/\zJ w' w.heap.size (.slice (some ⟨w.heap.size,0,none⟩) R R) C bs (genM R C (fun i j=>k*ent M i j)))/\Below w.heap.size w w':=by
 obtain⟨ao,n,cap,rfl,e1,e3,e4,-⟩:=id h;obtain rfl:R=n:=by rw[<-e1,hF.1]
 have hmk:=fun W=>mkR (R:Int) R rfl oM W
 have HF:=xgv hF;have HS:=xgv hS;have HK:=xgv s2;obtain⟨G,hG⟩:∃G:Nat->Nat->Int,(fun i j=>k*ent M i j)=G:=⟨_,rfl⟩;rw[hG];have HG:qM (∀i j,G i j=k*ent M i j):=⟨fun i j=>by rw[<-hG]⟩;clear hF hS s2 hG e1;go_enter Tryz.func157,Tryz.ntmps157;go_upto_region 2 with(fail)
 refine zC ?_;intro W0 hW0;obtain⟨hB0,bA,hs0⟩:=zN hW0;rw[zCV R C]at bA;clear hW0 hmk;go_wp2;go_loopw [14] (fun iv wr=>∃(i:Nat) (bs:List Nat),i<=R/\iv= .int .i64 i/\bs.length=i/\Below w.heap.size w wr/\Blk wr w.heap.size tR (qY R C bs)/\qM (bs.Nodup/\∀t b,bs[t]?=some b->w.heap.size<b/\qF wr b (zQ C (G t)))) (fun iv _=>R-(intOf iv).toNat)
 case atStart=>exact⟨0,[],by omega,rfl,rfl,hB0,bA,⟨⟨by simp,fun t b ht=>by simp at ht⟩⟩⟩
 case round=>
  obtain⟨i,bs,hi,rfl,hbl,hb,bA,hH⟩:=hrel;by_cases hlt:i<R
  ·obtain⟨b1,o1,ra,rn,rc,zs,rfl,hbl1,hz,p1,hv⟩:=(h.below hb).row (k:=i) (by rw[HF.out.1];exact hlt)
   have hzl:=HF.out.2 zs (xgd hz);have hrow:qM (zQ C (fun j=>k*zs.getD j 0)=zQ C (G i)):=⟨qA fun j hj=>by rw[HG.out];unfold ent;rw[jP hz]⟩;have SZ:qM (∀z∈zs,Sm z):=⟨HS.out _ (xgd hz)⟩;have HZL:=xgv hzl;have hkr:=hk.below hb;have hkvr:=hkv.ext (lx hb);have hfr:=hf.below hb;have lA:=bA.lt;have hlast:=zI6 wr.heap.size C (zQ C (G i));have hsz:=hb.size;clear hz hzl;go_upto_region 5 with(fail)
   refine zB 13 rfl (RV wr _ [VSl 0 17 w.heap.size R R,VN 1 18 i,E 2 19 (.func (.func 158) #[] #[.pointer (some ⟨fb,0,none⟩)]),E 3 20 (.slice (some ⟨b1,o1,none⟩) R cap),VN 4 21 i,VP 5 22 b1 (o1+i),E 6 23 (.slice ra rn rc),E 7 24 (.slice (some ⟨b1,o1,none⟩) R cap),VN 8 25 i,VP 9 26 b1 (o1+i),E 10 27 (.slice ra rn rc),⟨11,28,zGK wr.heap.size C (zQ C (G i))⟩,VP 12 29 w.heap.size i]) kR RV.start (RV.fin kR ?fin1) ?steps1
   case steps1=>
    refine⟨?_,?_,?_,?_,?_,?_,?_,?_,?_,?_,?_,?_,?_,trivial⟩<;>(intro L T wS hL hd hcl hI K hK;try refine zA rfl ?_)
    ·exact xgs (hI.k 7 rfl kR)
    ·exact xgs (hI.k 8 rfl kR)
    ·exact xgs (hI.k 2 rfl kR)
    ·exact xgs (hI.k 0 rfl kR)
    ·exact xgs (hI.k 8 rfl kR)
    ·exact xgt (hI.e mm3 (hd 3)) (hI.e mm4 (hd 4))
    ·have zt5:=hI.e mm5 (hd 5)
     have cc0:=hI.cell p1;exact xgu
    ·exact xgs (hI.k 1 rfl kR)
    ·exact xgs (hI.k 8 rfl kR)
    ·exact xgt (hI.e mm7 (hd 7)) (hI.e mm8 (hd 8))
    ·have zt9:=hI.e mm9 (hd 9)
     have cc0:=hI.cell p1;exact xgu
    ·have zt2:=hI.e mm2 (hd 2)
     have zt6:=hI.e mm6 (hd 6);have zt10:=hI.e yD (hd 10);go_simp;refine(zKE _ _ zs zs k fb kb C x y _ (hv.below hI.bel) (hv.below hI.bel) HZL.out HZL.out hC (hfr.below hI.bel) (hkr.below hI.bel) (hkvr.ext (lx hI.bel)) SZ.out HK.out).mono ?_
     (rintro e wa ⟨v,rfl,⟨g,e1,e2,e3⟩,hba⟩;rw[hrow.out]at e3;have hv:zGK wr.heap.size C (zQ C (G i)) wa v:=⟨g,e1,Nat.le_trans hI.bel.size e2,e3⟩)
     exact hK _ _ ((hI.world hba).y zAB hv)
    ·exact xgt (hI.e mm0 (hd 0)) (hI.e mm1 (hd 1))
   intro w9 hbw9 T hT;simp only[Fin,E,EI,VP,VSl,VN,xgg,xgh,xgi,xgj]at hT;obtain⟨va11,ha11,rfl⟩:=hT;simp only[xgl,xgk];obtain⟨g,rfl,hg1,hg2⟩:zGK wr.heap.size C (zQ C (G i)) w9 va11:=ha11;have bA:=bA.below hbw9;have f1:=bA.frozen i;obtain⟨u,f2⟩:∃u,w9.cell? ⟨w.heap.size,i,none⟩=some u:=by
    rw[bA.cell i];exact⟨_,Array.getElem?_eq_getElem (by rw[zAP oM];exact hlt)⟩
   have hset:=bA.set_ i (.slice (some ⟨g,0,none⟩) C C);rw[<-hbl,zDq oM,hbl]at hset;have hx1:=bA.lext dE i (.slice (some ⟨g,0,none⟩) C C);have HG2:=xgv hg2;have HH:=xgv hH.out;clear p1 hg2;go_wp2;go_roundw
   case rel=>
    refine⟨i+1,bs++ [g],by omega,by simp,by simp[hbl],zP (nx hb hbw9) (xgf _) _ _,hset,⟨⟨?_,?_⟩⟩⟩
    ·rw[List.nodup_append]
     refine⟨HH.out.1,by simp,fun x hx y hy=>?_⟩;simp at hy;subst hy;obtain⟨t,ht,e⟩:=List.getElem_of_mem hx;have:=(HH.out.2 t x (by rw[xga ht,e])).2.lt;omega
    ·intro t b ht
     by_cases e:t=i
     ·subst e
      rw[List.getElem?_append_right oM,hbl]at ht;simp at ht;subst ht;exact⟨by omega,HG2.out.old (zT _ _ _ _ _ oM) hx1⟩
     ·have htl:t<bs.length:=by
       have h5:=(xge.1 ht).1;simp at h5;omega
      rw[List.getElem?_append_left htl]at ht;obtain⟨h6,h7⟩:=HH.out.2 t b ht;exact⟨h6,(h7.below hbw9).old (zT _ _ _ _ _ oM) hx1⟩
   case measure=>simp[intOf];omega
  ·obtain rfl:i=R:=by omega
   have HH:=xgv hH.out;go_wp2;go_ret;refine⟨rfl,⟨bs,hbl,?_⟩,hb⟩;exact zJ.ofPart bA hbl HH.out.1 (fun t b ht=>by
    obtain⟨h6,h7⟩:=HH.out.2 t b ht;have hti:t<i:=by have:=(xge.1 ht).1;omega
    exact⟨by omega,_,zAL i C G hti,by simp,h7⟩) (by simp[genM]) (xgf _) hC hR
end Go.Proofs.YtgnmdddaiefooaaGreat
