/- hermite: (*work).run. smith: work.divide. smith: the parts of work.run. smith: work.run. slices.Index, slices.Contains; matrix.Equal's comparison; combine to bools. matrix.combine to bools, to integers, to rows; Scale's closures. matrix.combine to rows; matrix.valid, sizes, slices.Equal. matrix.valid, sizes; slices.Equal. slices.Equal on sizes; matrix.each, matrix.Scale. matrix.each for Scale; matrix.Scale. matrix.times. matrix.Mul. matrix.Equal, for matrices of the same sizes. The law for regions that draw, where calls make matrices: one behind the other, so that they lie apart. hermite: start. hermite.Form: the rows in order. The law for regions that draw, with matrices that lie apart, and slots that hold a matrix's rows. smith.Form. torsionref13.Check where everything holds. smith.Form. -/
import Derived.ChangeKeysEq
import Derived.Laws.StructEq
import Derived.Test.YtnbmaipobhppcaaGreatE04
import Derived.Test.YtnbmaipobhppcaaGreatE06
import Derived.Test.YtnbmaipobhppcaaGreatE08
set_option linter.unusedVariables false
set_option linter.unusedSimpArgs false
set_option linter.unusedSectionVars false
set_option maxHeartbeats 16000000
set_option maxRecDepth 100000
namespace Go.Proofs.YtnbmaipobhppcaaGreat
open Go.RowKit
theorem zE3{e0:Bool}{Z:Nat->Prop}{bw Cs Ct:Nat}{Ah:Value}{x:Bst}{w:World}(h:zAx e0 Z w bw Ah 0 Cs Ct x):
  Calls Tryz.prog 219 #[Ah,.agg (zA9 bw)] w fun e w'=>e= .returned (.slice none 0 0)/\Below w.heap.size w w':=by
 obtain⟨bss0,hw0,-⟩:=h.wri;obtain⟨so,sn,scap,rfl,s1,-⟩:=id (zT.rows hw0);have e2:0=sn:=by rw[<-s1];simp[zY]
 subst e2;clear s1 hw0 bss0 h;go_enter Tryz.func219,Tryz.ntmps219;go_upto_region 1 with(fail)
 refine zB ?_;intro W0 hW0;obtain⟨hB0,T3,hs0⟩:=zK hW0;clear hW0;go_wp2;go_loopw [5,12] (fun pv mv wr=>pv= .slice none 0 0/\mv= .int .i64 0/\Below w.heap.size w wr) (fun _ mv _=>0)
 case atStart=>exact⟨rfl,rfl,hB0⟩
 case round=>
  obtain⟨rfl,rfl,hb⟩:=hrel;go_wp2;go_ret;exact⟨rfl,hb⟩
theorem zF0{e0:Bool}{Z:Nat->Prop}{B:Nat}(hB:BSd B){bw n Cs Ct:Nat}{Ah:Value}{x:Bst}{w:World}{J J':Nat->Bst->List (Nat × Nat)->Prop}(hE:zPE B n Cs Ct J J')(h:zAx e0 Z w bw Ah n Cs Ct x)(h0:J 0 x [])
  (hn:n<=1000000) (hCs:Cs<=1000000) (hCt:Ct<=1000000) (hZ:∀b,Z b->b<w.heap.size) (hgz:∀g,Ah.ownBlock=some g->¬ Z g):
  Calls Tryz.prog 219 #[Ah,.agg (zA9 bw)] w fun e w'=>∃v y L,e= .returned v/\zX Z w w'/\zAx e0 Z w' bw Ah n Cs Ct y/\J n y L/\zDq w' w.heap.size v L:=by
 by_cases hn0:0<n
 ·exact zF1 hB hE h h0 hn hCs hCt hn0 hZ hgz
 ·obtain rfl:n=0:=by omega
  refine(zE3 h).mono ?_;rintro e w' ⟨rfl,hb⟩;exact⟨_,x,[],rfl,zX.of Z hb,h.below hb,h0,zDq.nil _ _⟩
theorem zBd.weak{w:World}{a b:Nat}{v:Value}{xs:List Nat}(h:zBd w b v xs)(hab:a<=b):zBd w a v xs:=by
 obtain⟨h1,h2,h3⟩:=h;refine⟨h1,h2,?_⟩;rcases h3 with h3|⟨g,cap,cur,rfl,k1,k2⟩
 ·exact .inl h3
 ·exact .inr ⟨g,cap,cur,rfl,by omega,k2⟩
theorem zBd.nil(w:World)(base:Nat):zBd w base (.slice none 0 0) []:=⟨by simp,rfl,.inl ⟨rfl,rfl⟩⟩
theorem zMg{e0:Bool}{Z:Nat->Prop}{B:Nat}(hB:BSd B){bw n Cs Ct:Nat}{Ah:Value}{x:Bst}{w:World}{J J':Nat->Bst->List (Nat × Nat)->Prop}(hE:zPE B n Cs Ct J J')(h:zAx e0 Z w bw Ah n Cs Ct x)(h0:J 0 x [])
  (hn:n<=1000000) (hCs:Cs<=1000000) (hCt:Ct<=1000000) (hZ:∀b,Z b->b<w.heap.size) (hgz:∀g,Ah.ownBlock=some g->¬ Z g):
  Calls Tryz.prog 152 #[.pointer (some ⟨bw,0,none⟩)] w fun e w'=>∃v y L,e= .returned v/\zX Z w w'/\zAx e0 Z w' bw Ah n Cs Ct y/\J n y L/\zBd w' w.heap.size v (L.map (·.1)):=by
 obtain⟨Au,Av,hbw⟩:=h.blk;obtain⟨c1,c2,c3,c4,c5,c6⟩:=hbw.three;have HE:=xgv hE;have HJ0:=xgv h0;have HH:=xgv h;clear h hE h0;go_enter Tryz.func152,Tryz.ntmps152;go_wp2_with fail
 refine(zF0 hB HE.out HH.out HJ0.out hn hCs hCt hZ hgz).mono ?_;rintro e w1 ⟨pv,y,Lp,rfl,hO,hz,hJ,hP⟩;obtain⟨hok,hL⟩:=HE.out.ok n y Lp hJ;have HL:=xgv hL;have hlen:Lp.length<=1000000:=Nat.le_trans hL.len hn;have HJ:=xgv hJ;have HP:=xgv hP;have HZ:=xgv hz;obtain⟨ao,lcap,rfl,hlc,hcap,hP0⟩:=hP.piv;have hP0:=xgv hP0;have hsz:=hO.bel.size;clear hJ hP hL hok hz HE HH HJ0 c1 c2 c3 c4 c5 c6 hbw;go_wp2;go_loopw [3,19] (fun u iv wr=>∃k:Nat,iv= .int .i64 k/\k<=Lp.length/\zBd wr w1.heap.size u ((Lp.take k).map (·.1))/\Below w1.heap.size w1 wr) (fun _ iv _=>Lp.length-(intOf iv).toNat)
 case atStart=>exact⟨0,rfl,by omega,zBd.nil _ _,Below.refl _ _⟩
 case round=>
  obtain⟨k,rfl,hk,ho,hb⟩:=hrel;by_cases hlt:k<Lp.length
  ·obtain⟨bp,_,rfl,-,-⟩:=hP0.out oM
   obtain⟨-,lbp,p1,p2⟩:=(HP.out.below hb).piv.cell hlt;obtain⟨r,hr⟩:∃r,(Lp.getD k (0,0)).1=r:=⟨_,rfl⟩;obtain⟨q,hq⟩:∃q,(Lp.getD k (0,0)).2=q:=⟨_,rfl⟩;have hrn:r<=1000000:=by have:=(HL.out.mem k hlt).1;omega
   rw[hr]at p1;rw[hq]at p2;have htk:(Lp.take (k+1)).map (·.1)=(Lp.take k).map (·.1)++ [r]:=by
    rw[List.take_add_one,List.map_append];congr 1;rw[xgb]at hr;cases hh:Lp[k]? with
    |none=>rw[List.getElem?_eq_none_iff]at hh;omega
    |some p=>rw[hh]at hr;simp at hr;simp[hr]
   have HTK:=xgv htk;have htl:((Lp.take k).map (·.1)).length=k:=by simp;omega
   clear hr hq htk;go_upto_region 5 with(fail)
   refine zB ?_;intro W7 hW7;obtain⟨hB7,T9,hs7⟩:=zK hW7;have T9:Blk W7 wr.heap.size zAo #[.int .i64 r,.int .i64 q]:=T9;have ho7:=ho.below hB7;have hb7:=hb.trans (hB7.mono hb.size);obtain⟨t1,t2,t3,t4⟩:=T9.two;have hys:∀w':World,zA1 (w'.alloc (.cells #[.int .i64 r] tNn)) (some ⟨w'.heap.size,0,none⟩) [r]:=fun w'=>⟨by simp;omega,fun _=>⟨_,0,_,rfl,heap_alloc_new w' _,fun k x hk=>by
    match k with
    |0=>simp at hk;subst hk;rfl
    |k+1=>simp at hk⟩⟩
   have h7s:=hb7.size;clear hW7 p1 p2;go_wp2_with (at_builtin;refine zQE rfl _ _ rfl w1.heap.size u3 ((Lp.take k).map (·.1)) rfl (ho7.alloc _) (some ⟨W7.heap.size,0,none⟩) 1 1 [r] rfl (hys W7) rfl (by rw[htl];omega) (by simp;omega) ?_;intro v' w' hown hgr)
   have hgr:World.grownBy (W7.alloc (.cells #[.int .i64 r] tNn)) w' (Value.ownBlock u3):=hgr;have hB9:Below w1.heap.size w1 w':=(hb7.alloc hb7.size _).grown hgr (by simp;omega) (fun g hg=>(ho.own g hg).1);go_roundw
   case rel=>exact⟨k+1,by simp,by omega,by rw[HTK.out];exact hown,hB9⟩
   case measure=>simp[intOf];omega
  ·obtain rfl:k=Lp.length:=by omega
   go_wp2;go_ret;exact⟨_,y,Lp,rfl,hO.trans (zX.of Z hb),HZ.out.below hb,HJ.out,(by rw[List.take_length]at ho;exact ho.weak hsz)⟩

def okW(B R C Cu Cw:Nat)(z:W5):Prop:=okF B R C z.s/\okF B R Cu z.u/\okF B R Cu z.v/\okF B C Cw z.w/\okF B C Cw z.x
theorem zT.fresh{w:World}{base:Nat}{A:Value}{C:Nat}{bs:List Nat}{M:List (List Int)}(h:zT w base A C bs M){b:Nat}(hb:Zn A bs b):base<=b:=by
 rcases hb with hb|hb
 ·obtain⟨k,hk,e⟩:=List.getElem_of_mem hb
  exact(h.row k b (M[k]'(by rw[h.len];exact hk)) (by rw[xga hk,e]) (xga _)).1
 ·rcases h.own.2 with⟨rfl,-⟩|⟨g,cap,cur,rfl,h2,-⟩
  ·cases hb
  ·simp only[Value.ownBlock,Option.some.injEq]at hb
   omega
section
variable {w w':World} {base wb RS CS R C Cu Cw:Nat} {AS AU AV AW AX:Value} {bS bU bV bW bX:List Nat} {z:W5}
end
theorem Wri.shape{w:World}{A:Value}{R C:Nat}{bs:List Nat}{F:Nat->Nat->Int}(h:Wri w A R C bs F):∃o c,A= .slice o R c:=by
 obtain⟨so,sn,sc,rfl,s1,-⟩:=id (zT.rows h);obtain rfl:R=sn:=by rw[<-s1];simp[zY]
 exact⟨_,_,rfl⟩
theorem zBv.shape{w:World}{base:Nat}{v:Value}{zs:List Int}(h:zBv w base v zs):∃o c,v= .slice o zs.length c:=by
 obtain⟨cells,h1,-⟩:=h;rcases h1.2 with⟨rfl,h0⟩|⟨g,cap,cur,rfl,-⟩
 ·exact⟨none,0,by rw[h0]⟩
 ·exact⟨_,_,rfl⟩
abbrev tBo:TypeId:=4
def zRc(n:Nat)(g:Nat->Bool):Array Value:=((List.range n).map fun i=>Value.bool (g i)).toArray
def zRN(g:Nat->Bool)(j:Nat):Nat->Bool:=fun t=>if t<j then g t else false
theorem zJu(v1 v2:Value)(z k:Int)(kb:Nat)(x y:Value)(w:World)(h1:zH w v1 z)(h2:∃z2,zH w v2 z2)(hk:Blk w kb tI #[x,y])(hkv:zH w (.agg #[x,y]) k)(s1:Sm z)(s2:Sm k):
  Calls Tryz.prog 256 #[v1,v2,.pointer (some ⟨kb,0,none⟩)] w (jL w (k*z)):=by
 obtain⟨neg1,ao1,n1,cap1,xs,rfl,i1⟩:=id h1;obtain⟨z2,h2⟩:=h2;obtain⟨neg2,ao2,n2,cap2,ys,rfl,i2⟩:=id h2;obtain⟨kn,ka,kl,kc,rfl,rfl⟩:=hkv.two;have HS1:=xgv s1;have HS2:=xgv s2;clear i1 i2 s1 s2 h2;go_enter Tryz.func256,Tryz.ntmps256;go_upto_region 1 with(fail)
 refine zB ?_;intro W0 hW0;obtain⟨hB0,bx1,bx2,br,hs0⟩:=yO hW0;obtain⟨c1,c2,c3,c4⟩:=bx1.two;obtain⟨d1,d2,d3,d4⟩:=(hk.below hB0).two;go_wp2_with fail
 refine(jO _ _ k z W0 (hkv.ext (lx hB0)).weak (h1.ext (lx hB0)).weak HS2.out HS1.out).mono ?_;rintro e w1 ⟨v,rfl,hv,hb1⟩;obtain⟨pn,pa,pl,pc,px,rfl,hpx⟩:=id hv;have HPX:=xgw hpx;have br:=br.below hb1;obtain⟨e1,e2,e3,e4⟩:=br.two;clear hpx;go_wp2;exact zW rfl rfl rfl (br.put2 _ _) (hv.ext (br.lext2 dE _ _)) (zO (zO (nx hB0 hb1) oM 0 _) oM 1 _)
theorem zKU(v1 v2:Value)(zs ys:List Int)(k:Int)(kb n:Nat)(x y:Value)(w:World)(h1:qN w v1 zs)(h2:qN w v2 ys)(hl1:zs.length=n)(hl2:ys.length=n)(hn:n<=1000000)(hk:Blk w kb tI #[x,y])(hkv:zH w (.agg #[x,y]) k)
  (hS:∀z∈zs,Sm z) (s2:Sm k):
  Calls Tryz.prog 298 #[v1,v2,.func (.func 256) #[] #[.pointer (some ⟨kb,0,none⟩)]] w fun e w'=>
   e= .returned (.slice (some ⟨w.heap.size,0,none⟩) n n)/\qC w' w.heap.size (zM n (fun j=>k*zs.getD j 0))/\Below w.heap.size w w':=by
 obtain⟨ao,n1,cap,rfl,e1,e3,e4,-⟩:=id h1;obtain⟨bo,n2,bcap,rfl,f1,f3,f4,-⟩:=id h2;obtain rfl:n=n1:=by omega
 obtain rfl:n=n2:=by omega
 have hmk:=fun W=>mkI (n:Int) n rfl oM W
 have HL1:=xgv hl1;have HL2:=xgv hl2;have HS:=xgv hS;have HK:=xgv s2;obtain⟨G,hG⟩:∃G:Nat->Int,(fun j=>k*zs.getD j 0)=G:=⟨_,rfl⟩;rw[hG];have HG:qE (∀t,G t=k*zs.getD t 0):=⟨fun t=>by rw[<-hG]⟩;clear hl1 hl2 e1 f1 hG hS s2;go_enter Tryz.func298,Tryz.ntmps298;go_upto_region 2 with(fail)
 refine zB ?_;intro W0 hW0;obtain⟨hB0,bA,hs0⟩:=zK hW0;have hA:qC W0 w.heap.size (zM n (qA G (fun _=>0) 0)):=by
  have h4:=zDC w n;have h5:List.replicate n (0:Int)=zM n (qA G (fun _=>0) 0):=by
   apply List.ext_getElem
   ·simp[zM]
   ·intro i h1 h2;simp[zM,qA]
  rw[h5]at h4;rw[hW0.out];exact h4
 clear hW0 hmk bA;go_wp2;go_loopw [14] (fun jv wr=>∃j:Nat,j<=n/\jv= .int .i64 j/\Below w.heap.size w wr/\qC wr w.heap.size (zM n (qA G (fun _=>0) j))) (fun jv _=>n-(intOf jv).toNat)
 case atStart=>exact⟨0,by omega,rfl,hB0,hA⟩
 case round=>
  obtain⟨j,hj,rfl,hb,hA⟩:=hrel;by_cases hlt:j<n
  ·obtain⟨b1,z1,s1,a1,l1,c1,rfl,hbl1,hz1,p1,p2,hv1⟩:=(h1.below hb).cell (k:=j) (by rw[HL1.out];exact hlt)
   obtain⟨b2,z2,s2,a2,l2,c2,rfl,hbl2,hz2,q1,q2,hv2⟩:=(h2.below hb).cell (k:=j) (by rw[HL2.out];exact hlt);have hgj:qE (k*z1=G j):=⟨by rw[HG.out,zBQ hz1]⟩;have S1:qE (Sm z1):=⟨HS.out _ (xgd hz1)⟩;have hkr:=hk.below hb;have hkvr:=hkv.ext (lx hb);have lkb:=hkr.lt;clear hz1 hz2;have lA:=hA.lt;go_upto_region 5 with(fail)
   refine zC 13 rfl (RI wr (wr.heap.size) _ 35
     [VSl 0 17 w.heap.size n n,VN 1 18 j,E 2 19 (.func (.func 256) #[] #[.pointer (some ⟨kb,0,none⟩)]),VSl 3 20 b1 n cap,VN 4 21 j,VP 5 22 b1 (j*2),E 6 23 (.agg #[.bool s1,.slice a1 l1 c1]),VSl 7 24 b2 n bcap,VN 8 25 j,VP 9 26 b2 (j*2),E 10 27 (.agg #[.bool s2,.slice a2 l2 c2]),EI 11 28 (k*z1),VP 12 29 w.heap.size (j*2)] [] []) kR RI.start (RI.fin kR ?fin2) ?steps2
   case steps2=>
    (repeat' constructor)<;>(intro L T wS hL hd hcl hI K hK;try refine zA rfl ?_)
    ·exact xgs (hI.k 7 rfl kR)
    ·exact xgs (hI.k 8 rfl kR)
    ·exact xgs (hI.k 2 rfl kR)
    ·exact xgs (hI.k 0 rfl kR)
    ·exact xgs (hI.k 8 rfl kR)
    ·exact xgt (hI.e mm3 (hd 3)) (hI.e mm4 (hd 4))
    ·have zt5:=hI.e mm5 (hd 5)
     have cc0:=hI.cell p1 oM nom;have cc1:=hI.cell p2 oM nom;exact xgu
    ·exact xgs (hI.k 1 rfl kR)
    ·exact xgs (hI.k 8 rfl kR)
    ·exact xgt (hI.e mm7 (hd 7)) (hI.e mm8 (hd 8))
    ·have zt9:=hI.e mm9 (hd 9)
     have cc0:=hI.cell q1 oM nom;have cc1:=hI.cell q2 oM nom;exact xgu
    ·have zt2:=hI.e mm2 (hd 2)
     have zt6:=hI.e mm6 (hd 6);have zt10:=hI.e zAB (hd 10);go_simp;refine(zJu _ _ z1 k kb x y _ (hv1.ext hI.lext) ⟨z2,hv2.ext hI.lext⟩ ((hI.old kb oM sI).trans hkr) (hkvr.ext hI.lext) S1.out HK.out).mono ?_;exact xgo
    ·exact xgt (hI.e mm0 (hd 0)) (hI.e mm1 (hd 1))
   intro w9 hlw9 hbw9 holdw9 T hT;simp only[Fin,E,EI,VP,VSl,VN,xgg,xgh,xgi,xgj]at hT;obtain⟨va11,ha11,rfl⟩:=hT;simp only[xgl,xgk];obtain⟨pn,pa,pl,pc,px,rfl,hpx⟩:=id ha11;have HPX:=xgw hpx;have hA:=hA.below hbw9;obtain⟨zs,za,zl,zc,z1,z2,z3,z4,-⟩:=hA.cell (zP hlt);have hset:=hA.set (k:=j) (by rw[zD];exact hlt) ha11;rw[zEJ hgj.out]at hset;clear hpx p1 p2 q1 q2;go_wp2;go_roundw
   case rel=>exact⟨j+1,by omega,by simp,zO (zO (nx hb hbw9) (xgf _) _ _) (xgf _) _ _,hset.1⟩
   case measure=>simp[intOf];omega
  ·obtain rfl:j=n:=by omega
   have hq:zM j (qA G (fun _=>0) j)=zM j G:=zQ fun t ht=>by unfold qA;rw[if_pos ht]
   rw[hq]at hA;go_wp2;go_ret;exact⟨rfl,hA,hb⟩
abbrev tF:TypeId:=152
def zDp(n0 C:Nat)(zs:List Int):World->Value->Prop:=fun w v=>∃g,v= .slice (some ⟨g,0,none⟩) C C/\n0<=g/\qC w g zs
theorem zJW(n0 C:Nat)(zs:List Int):qK (zDp n0 C zs):=fun _ _ _ e ⟨g,h1,h2,h3⟩=>⟨g,h1,h2,h3.below e⟩
theorem zKd(v1 v2:Value)(zs ys:List Int)(k:Int)(fb kb n:Nat)(x y:Value)(w:World)(h1:qN w v1 zs)(h2:qN w v2 ys)(hl1:zs.length=n)(hl2:ys.length=n)(hn:n<=1000000)
  (hf:Blk w fb tF #[.func (.func 256) #[] #[.pointer (some ⟨kb,0,none⟩)]]) (hk:Blk w kb tI #[x,y]) (hkv:zH w (.agg #[x,y]) k) (hS:∀z∈zs,Sm z) (s2:Sm k):
  Calls Tryz.prog 297 #[v1,v2,.pointer (some ⟨fb,0,none⟩)] w fun e w'=>∃v,e= .returned v/\zDp w.heap.size n (zM n (fun j=>k*zs.getD j 0)) w' v/\Below w.heap.size w w':=by
 have c1:=hf.cell 0;have HS:=xgv hS;have HK:=xgv s2;obtain⟨G,hG⟩:∃G:Nat->Int,(fun j=>k*zs.getD j 0)=G:=⟨_,rfl⟩;rw[hG];have HG:=xgv hG;clear hG hS s2;obtain⟨ao,n1,cap,rfl,-⟩:=id h1;obtain⟨bo,n2,bcap,rfl,-⟩:=id h2;go_enter Tryz.func297,Tryz.ntmps297;go_wp2_with fail
 refine(zKU _ _ zs ys k kb n x y w h1 h2 hl1 hl2 hn hk hkv HS.out HK.out).mono ?_;rintro e w1 ⟨rfl,hr,hb1⟩;rw[HG.out]at hr;go_wp2;go_ret;exact⟨_,rfl,⟨_,rfl,xgf _,hr⟩,hb1⟩
theorem zT.ofPart{w:World}{base g n C:Nat}{bs:List Nat}{M:List (List Int)}(hb:Blk w g tR (yA n C bs))(hl:bs.length=n)(hnd:bs.Nodup)(hr:∀(t b:Nat),bs[t]?=some b->base<=b/\∃r:List Int,M[t]?=some r/\r.length=C/\qC w b r)
  (hM:M.length=n) (hg:base<=g) (hC:C<=1000000) (hn:n<=1000000):zT w base (.slice (some ⟨g,0,none⟩) n n) C bs M:=by
 have hpr:(yA n C bs).toList=yC C bs:=by simp[yA,hl]
 refine⟨⟨by simp[yC],.inr ⟨g,n,yA n C bs,by rw[hl],hg,hb,by omega,by simp[maxLen];omega,by rw[zAY oM];omega,?_⟩⟩,by rw[hM,hl],?_,hnd,by omega⟩
 ·rw[hpr,hl,Nat.mul_one,List.take_of_length_le (by simp[yC,hl])]
 ·intro t b r ht hr'
  obtain⟨h1,r2,h2,h3,h4⟩:=hr t b ht;rw[h2]at hr';injection hr' with hr'
  subst hr';exact⟨h1,h3,h4⟩
theorem zKV(A:Value)(M:List (List Int))(R C:Nat)(k:Int)(fb kb:Nat)(x y:Value)(w:World)(h:zGZ w A M)(hF:jT R C M)(hR:R<=1000000)(hC:C<=1000000)
  (hf:Blk w fb tF #[.func (.func 256) #[] #[.pointer (some ⟨kb,0,none⟩)]]) (hk:Blk w kb tI #[x,y]) (hkv:zH w (.agg #[x,y]) k) (hS:∀r∈M,∀z∈r,Sm z) (s2:Sm k):
  Calls Tryz.prog 296 #[A,A,.func (.func 297) #[] #[.pointer (some ⟨fb,0,none⟩)]] w fun e w'=>
   e= .returned (.slice (some ⟨w.heap.size,0,none⟩) R R)/\(∃bs,bs.length=R/\zT w' w.heap.size (.slice (some ⟨w.heap.size,0,none⟩) R R) C bs (zY R C (fun i j=>k*ent M i j)))/\Below w.heap.size w w':=by
 obtain⟨ao,n,cap,rfl,e1,e3,e4,-⟩:=id h;obtain rfl:R=n:=by rw[<-e1,hF.1]
 have hmk:=fun W=>mkR (R:Int) R rfl oM W
 have HF:=xgv hF;have HS:=xgv hS;have HK:=xgv s2;obtain⟨G,hG⟩:∃G:Nat->Nat->Int,(fun i j=>k*ent M i j)=G:=⟨_,rfl⟩;rw[hG];have HG:qE (∀i j,G i j=k*ent M i j):=⟨fun i j=>by rw[<-hG]⟩;clear hF hS s2 hG e1;go_enter Tryz.func296,Tryz.ntmps296;go_upto_region 2 with(fail)
 refine zB ?_;intro W0 hW0;obtain⟨hB0,bA,hs0⟩:=zK hW0;rw[zCY R C]at bA;clear hW0 hmk;go_wp2;go_loopw [14] (fun iv wr=>∃(i:Nat) (bs:List Nat),i<=R/\iv= .int .i64 i/\bs.length=i/\Below w.heap.size w wr/\Blk wr w.heap.size tR (yA R C bs)/\qE (bs.Nodup/\∀t b,bs[t]?=some b->w.heap.size<b/\qC wr b (zM C (G t)))) (fun iv _=>R-(intOf iv).toNat)
 case atStart=>exact⟨0,[],by omega,rfl,rfl,hB0,bA,⟨⟨by simp,fun t b ht=>by simp at ht⟩⟩⟩
 case round=>
  obtain⟨i,bs,hi,rfl,hbl,hb,bA,hH⟩:=hrel;by_cases hlt:i<R
  ·obtain⟨b1,o1,ra,rn,rc,zs,rfl,hbl1,hz,p1,hv⟩:=(h.below hb).row (k:=i) (by rw[HF.out.1];exact hlt)
   have hzl:=HF.out.2 zs (xgd hz);have hrow:qE (zM C (fun j=>k*zs.getD j 0)=zM C (G i)):=⟨zQ fun j hj=>by rw[HG.out];unfold ent;rw[zBQ hz]⟩;have SZ:qE (∀z∈zs,Sm z):=⟨HS.out _ (xgd hz)⟩;have HZL:=xgv hzl;have hkr:=hk.below hb;have hkvr:=hkv.ext (lx hb);have hfr:=hf.below hb;have lA:=bA.lt;have hlast:=zJW wr.heap.size C (zM C (G i));have hsz:=hb.size;clear hz hzl;go_upto_region 5 with(fail)
   refine zC 13 rfl (RV wr _ [VSl 0 17 w.heap.size R R,VN 1 18 i,E 2 19 (.func (.func 297) #[] #[.pointer (some ⟨fb,0,none⟩)]),E 3 20 (.slice (some ⟨b1,o1,none⟩) R cap),VN 4 21 i,VP 5 22 b1 (o1+i),E 6 23 (.slice ra rn rc),E 7 24 (.slice (some ⟨b1,o1,none⟩) R cap),VN 8 25 i,VP 9 26 b1 (o1+i),E 10 27 (.slice ra rn rc),⟨11,28,zDp wr.heap.size C (zM C (G i))⟩,VP 12 29 w.heap.size i]) kR RV.start (RV.fin kR ?fin1) ?steps1
   case steps1=>
    (repeat' constructor)<;>(intro L T wS hL hd hcl hI K hK;try refine zA rfl ?_)
    ·exact xgs (hI.k 7 rfl kR)
    ·exact xgs (hI.k 8 rfl kR)
    ·exact xgs (hI.k 2 rfl kR)
    ·exact xgs (hI.k 0 rfl kR)
    ·exact xgs (hI.k 8 rfl kR)
    ·exact xgt (hI.e mm3 (hd 3)) (hI.e mm4 (hd 4))
    ·have zt5:=hI.e mm5 (hd 5)
     have cc0:=hI.cell p1;exact xgu
    ·exact xgs (hI.k 1 rfl kR)
    ·exact xgs (hI.k 8 rfl kR)
    ·exact xgt (hI.e mm7 (hd 7)) (hI.e mm8 (hd 8))
    ·have zt9:=hI.e mm9 (hd 9)
     have cc0:=hI.cell p1;exact xgu
    ·have zt2:=hI.e mm2 (hd 2)
     have zt6:=hI.e mm6 (hd 6);have zt10:=hI.e zAB (hd 10);go_simp;refine(zKd _ _ zs zs k fb kb C x y _ (hv.below hI.bel) (hv.below hI.bel) HZL.out HZL.out hC (hfr.below hI.bel) (hkr.below hI.bel) (hkvr.ext (lx hI.bel)) SZ.out HK.out).mono ?_
     (rintro e wa ⟨v,rfl,⟨g,e1,e2,e3⟩,hba⟩;rw[hrow.out]at e3;have hv:zDp wr.heap.size C (zM C (G i)) wa v:=⟨g,e1,Nat.le_trans hI.bel.size e2,e3⟩)
     exact hK _ _ ((hI.world hba).y zAG hv)
    ·exact xgt (hI.e mm0 (hd 0)) (hI.e mm1 (hd 1))
   intro w9 hbw9 T hT;simp only[Fin,E,EI,VP,VSl,VN,xgg,xgh,xgi,xgj]at hT;obtain⟨va11,ha11,rfl⟩:=hT;simp only[xgl,xgk];obtain⟨g,rfl,hg1,hg2⟩:zDp wr.heap.size C (zM C (G i)) w9 va11:=ha11;have bA:=bA.below hbw9;have f1:=bA.frozen i;obtain⟨u,f2⟩:∃u,w9.cell? ⟨w.heap.size,i,none⟩=some u:=by
    rw[bA.cell i];exact⟨_,Array.getElem?_eq_getElem (by rw[zAY oM];exact hlt)⟩
   have hset:=bA.set_ i (.slice (some ⟨g,0,none⟩) C C);rw[<-hbl,zD1 oM,hbl]at hset;have hx1:=bA.lext dE i (.slice (some ⟨g,0,none⟩) C C);have HG2:=xgv hg2;have HH:=xgv hH.out;clear p1 hg2;go_wp2;go_roundw
   case rel=>
    refine⟨i+1,bs++ [g],by omega,by simp,by simp[hbl],zO (nx hb hbw9) (xgf _) _ _,hset,⟨⟨?_,?_⟩⟩⟩
    ·rw[List.nodup_append]
     refine⟨HH.out.1,by simp,fun x hx y hy=>?_⟩;simp at hy;subst hy;obtain⟨t,ht,e⟩:=List.getElem_of_mem hx;have:=(HH.out.2 t x (by rw[xga ht,e])).2.lt;omega
    ·intro t b ht
     by_cases e:t=i
     ·subst e
      rw[List.getElem?_append_right oM,hbl]at ht;simp at ht;subst ht;exact⟨by omega,HG2.out.old (zU _ _ _ _ _ oM) hx1⟩
     ·have htl:t<bs.length:=by
       have h5:=(xge.1 ht).1;simp at h5;omega
      rw[List.getElem?_append_left htl]at ht;obtain⟨h6,h7⟩:=HH.out.2 t b ht;exact⟨h6,(h7.below hbw9).old (zU _ _ _ _ _ oM) hx1⟩
   case measure=>simp[intOf];omega
  ·obtain rfl:i=R:=by omega
   have HH:=xgv hH.out;go_wp2;go_ret;refine⟨rfl,⟨bs,hbl,?_⟩,hb⟩;exact zT.ofPart bA hbl HH.out.1 (fun t b ht=>by
    obtain⟨h6,h7⟩:=HH.out.2 t b ht;have hti:t<i:=by have:=(xge.1 ht).1;omega
    exact⟨by omega,_,zAW i C G hti,by simp,h7⟩) (by simp[zY]) (xgf _) hC hR
abbrev tM:TypeId:=28
theorem Blk.six{w:World}{g:Nat}{t:TypeId}{c0 c1 c2 c3 c4 c5:Value}(h:Blk w g t #[c0,c1,c2,c3,c4,c5]):
  w.cell? ⟨g,0,none⟩=some c0/\w.cell? ⟨g,1,none⟩=some c1/\w.cell? ⟨g,2,none⟩=some c2/\w.cell? ⟨g,3,none⟩=some c3/\w.cell? ⟨g,4,none⟩=some c4/\w.cell? ⟨g,5,none⟩=some c5:=
 ⟨h.cell 0,h.cell 1,h.cell 2,h.cell 3,h.cell 4,h.cell 5⟩
theorem zJ6(b:Nat)(c:Nat)(R1 C1 R2 C2:Int)(A1 A2:Value)(M1 M2:List (List Int))(w:World)(hb0:Blk w b tM #[.int .i64 R1,.int .i64 C1,A1,.int .i64 R2,.int .i64 C2,A2])(hc:2<=c)(hc2:c<=9223372036854775807)
  (h1:zIY w (.agg #[.int .i64 R1,.int .i64 C1,A1]) R1 C1 M1) (h2:zIY w (.agg #[.int .i64 R2,.int .i64 C2,A2]) R2 C2 M2):
  Calls Tryz.prog 293 #[.slice (some ⟨b,0,none⟩) 2 c] w fun e w'=>e= .returned (.bool (decide (qX R1 C1 M1/\qX R2 C2 M2)))/\Below w.heap.size w w':=by
 obtain⟨ans,hans⟩:∃ans:Bool,decide (qX R1 C1 M1/\qX R2 C2 M2)=ans:=⟨_,rfl⟩;rw[hans];have HA:=xgv hans;obtain⟨o1,n1,k1,rfl⟩:∃o n k,A1= .slice o n k:=by
  obtain⟨A,e,ao,n,cap,rfl,-⟩:=h1;injection e with e
  simp only[Array.mk.injEq,List.cons.injEq]at e;exact⟨_,_,_,e.2.2.1⟩
 obtain⟨o2,n2,k2,rfl⟩:∃o n k,A2= .slice o n k:=by
  obtain⟨A,e,ao,n,cap,rfl,-⟩:=h2;injection e with e
  simp only[Array.mk.injEq,List.cons.injEq]at e;exact⟨_,_,_,e.2.2.1⟩
 clear hans;go_enter Tryz.func293,Tryz.ntmps293;go_wp2;go_loopw [7] (fun iv wr=>∃k:Nat,k<=2/\iv= .int .i64 k/\Below w.heap.size w wr/\qE ((0<k->qX R1 C1 M1)/\(1<k->qX R2 C2 M2))) (fun iv _=>2-(intOf iv).toNat)
 case atStart=>exact⟨0,by omega,rfl,Below.refl _ _,⟨⟨fun h=>by omega,fun h=>by omega⟩⟩⟩
 case round=>
  obtain⟨k,hk,rfl,hb,hall⟩:=hrel;obtain⟨c1,c2,c3,c4,c5,c6⟩:=(hb0.below hb).six;by_cases hk0:k=0
  ·subst hk0
   go_upto_region 4 with(fail)
   refine zB ?_;intro W6 hW6;obtain⟨hB6,T7,hs6⟩:=zK hW6;obtain⟨d1,d2,d3,d4,d5,d6⟩:=T7.three;clear c1 c2 c3 c4 c5 c6 hW6;go_wp2_with fail
   refine(zDd _ R1 C1 M1 W6 ((h1.below hb).below hB6)).mono ?_;rintro e w7 ⟨rfl,hb7⟩;by_cases hv:qX R1 C1 M1
   ·rw[decide_eq_true hv]
    have HV:=xgv hv;clear hv d1 d2 d3 d4 d5 d6;go_wp2;go_roundw
    case rel=>exact⟨1,by omega,by simp,nx (nx hb hB6) hb7,⟨⟨fun _=>HV.out,fun h=>by omega⟩⟩⟩
    case measure=>simp[intOf]
   ·rw[decide_eq_false hv]
    have HV:=xgv hv;clear hv d1 d2 d3 d4 d5 d6;go_wp2;go_ret;refine⟨?_,nx (nx hb hB6) hb7⟩;have h3:ans=false:=by rw[<-HA.out];exact decide_eq_false (fun hh=>HV.out (by first|exact hh.1|exact hh.2))
    rw[h3];rfl
  ·by_cases hk1:k=1
   ·subst hk1
    go_upto_region 4 with(fail)
    refine zB ?_;intro W6 hW6;obtain⟨hB6,T7,hs6⟩:=zK hW6;obtain⟨d1,d2,d3,d4,d5,d6⟩:=T7.three;clear c1 c2 c3 c4 c5 c6 hW6;go_wp2_with fail
    refine(zDd _ R2 C2 M2 W6 ((h2.below hb).below hB6)).mono ?_;rintro e w7 ⟨rfl,hb7⟩;by_cases hv:qX R2 C2 M2
    ·rw[decide_eq_true hv]
     have HV:=xgv hv;clear hv d1 d2 d3 d4 d5 d6;go_wp2;go_roundw
     case rel=>exact⟨2,by omega,by simp,nx (nx hb hB6) hb7,⟨⟨fun _=>hall.out.1 oM,fun _=>HV.out⟩⟩⟩
     case measure=>simp[intOf]
    ·rw[decide_eq_false hv]
     have HV:=xgv hv;clear hv d1 d2 d3 d4 d5 d6;go_wp2;go_ret;refine⟨?_,nx (nx hb hB6) hb7⟩;have h3:ans=false:=by rw[<-HA.out];exact decide_eq_false (fun hh=>HV.out (by first|exact hh.1|exact hh.2))
     rw[h3];rfl
   ·obtain rfl:k=2:=by omega
    go_wp2;go_ret;refine⟨?_,hb⟩;have h3:ans=true:=by rw[<-HA.out];exact decide_eq_true ⟨hall.out.1 oM,hall.out.2 oM⟩
    rw[h3];rfl
abbrev tP:TypeId:=337
theorem Tryz.infoP:(Tryz.prog.info? tP).map (fun i=>(i.zero,i.size,i.bytes))=some (some (.agg #[.int .i64 0,.int .i64 0]),2,16):=by kernel_rfl
theorem zQ5{w:World}{ops:Array Oper}{rest:List Oper}{o:Oper}{a:Act}{Q:Exit->Act->World->Prop}(hgd:o.guard=none)(s x:Operand)
  (ho:o.op= .call {callee:=.builtin .append,args:=#[s,x],argTypes:=#[336,336]})
  (base:Nat) (v:Value) (n:Nat) (xs:List Value) (hs:a.eval s=v) (hown:w.ownsRow base tP 2 v n xs) (b c:Nat) (z1 z2:Int) (hx:a.eval x= .slice (some ⟨b,0,none⟩) 1 c)
  (hb:Blk w b tP #[.int .i64 z1,.int .i64 z2]) (hlen:n+1<=1099511627776) (hbase:base<=w.heap.size)
  (h:∀v' w',w'.ownsRow base tP 2 v' (n+1) (xs++ [.int .i64 z1,.int .i64 z2])->w.grownBy w' v.ownBlock->wpList Tryz.prog ops Q rest (a.put o.dst v') w'):wpList Tryz.prog ops Q (o::rest) a w:=by
 obtain⟨i0,hi,hz0,hz1,hz2⟩:=info_parts Tryz.infoP;obtain⟨c1,c2,-,-⟩:=hb.two;refine wpList_append_own w hgd s x 336 ho base tP i0 _ 2 16 Tryz.underlying336 hi hz0 hz1 hz2 rfl oM v n xs hs hown ⟨b,0,none⟩ 1 c [.int .i64 z1,.int .i64 z2] hx rfl ?_ ?_ (by simp[maxLen];omega) oM hbase ?_
 ·intro j u hj
  rw[Addr.add_lit];match j with
  |0=>simp at hj;subst hj;exact c1
  |1=>simp at hj;subst hj;exact c2
  |j+2=>simp at hj
 ·intro u hu
  simp at hu;rcases hu with rfl|rfl<;>rfl
 ·intro v' w' h1 h2 _
  exact h v' w' h1 h2
def zDr(z1 z2:Int):World->Value->Prop:=fun w v=>∃g cap cs,v= .slice (some ⟨g,0,none⟩) 1 cap/\1<=cap/\cap<=9223372036854775807/\Blk w g tP cs/\cs[0]?=some (.int .i64 z1)/\cs[1]?=some (.int .i64 z2)
theorem zGy(z1 z2:Int):qK (zDr z1 z2):=fun _ _ _ e ⟨g,cap,cs,h1,h2,h3,h4,h5⟩=>⟨g,cap,cs,h1,h2,h3,h4.below e,h5⟩
theorem zHM(b c:Nat)(R C:Int)(A:Value)(w:World)(hb0:Blk w b tM #[.int .i64 R,.int .i64 C,A])(hA:∃o n k,A= .slice o n k)(hc:1<=c)(hc2:c<=9223372036854775807):
  Calls Tryz.prog 295 #[.slice (some ⟨b,0,none⟩) 1 c] w fun e w'=>∃v,e= .returned v/\zDr R C w' v/\Below w.heap.size w w':=by
 obtain⟨o1,n1,k1,rfl⟩:=hA;go_enter Tryz.func295,Tryz.ntmps295;go_wp2;go_loopw [3,8] (fun u iv wr=>∃k:Nat,k<=1/\iv= .int .i64 k/\Below w.heap.size w wr/\wr.ownsRow w.heap.size tP 2 u k (if k=0 then []else [.int .i64 R,.int .i64 C])) (fun _ iv _=>1-(intOf iv).toNat)
 case atStart=>exact⟨0,by omega,rfl,Below.refl _ _,World.ownsRow_nil _ _ _ _⟩
 case round=>
  obtain⟨k,hk,rfl,hb,hown⟩:=hrel;by_cases hk0:k=0
  ·subst hk0
   rw[if_pos rfl]at hown;obtain⟨c1,c2,c3,c4,c5,c6⟩:=(hb0.below hb).three;go_upto_region 5 with(fail)
   refine zB ?_;intro W6 hW6;obtain⟨hB6,T7,hs6⟩:=zK hW6;obtain⟨d1,d2,d3,d4,d5,d6⟩:=T7.three;have hown6:=hown.kept (row:=none) ⟨hB6.os,hB6.tape,hB6.output,hB6.size,fun k hk _=>hB6.block k hk⟩ (by cases hv:u3.ownBlock<;>simp);have hbs:=(nx hb hB6).size;clear c1 c2 c3 c4 c5 c6 hW6;have hown7:=hown6.kept (row:=none) (w':=W6.alloc (.cells #[.int .i64 R,.int .i64 C] tP)) (by
    have hB7:Below W6.heap.size W6 (W6.alloc (.cells #[.int .i64 R,.int .i64 C] tP)):=(Below.refl _ _).alloc (xgf _) _;exact⟨hB7.os,hB7.tape,hB7.output,hB7.size,fun k hk _=>hB7.block k hk⟩) (by cases hv:u3.ownBlock<;>simp)
   go_wp2_with (at_builtin;refine zQ5 rfl _ _ rfl w.heap.size u3 0 [] rfl hown7 W6.heap.size 1 R C rfl (Blk.new _ _ _) oM (by simp;omega) ?_;intro v' w' hown8 hgr)
   have hgr:World.grownBy (W6.alloc (.cells #[.int .i64 R,.int .i64 C] tP)) w' (Value.ownBlock u3):=hgr;have hB9:Below w.heap.size w w':=((nx hb hB6).alloc oM _).grown hgr (by simp;omega) (fun g hg=>by
    rcases hown.2 with⟨rfl,-⟩|⟨g',cap,cur,rfl,h1,-⟩
    ·cases hg
    ·simp only[Value.ownBlock,Option.some.injEq]at hg
     omega)
   go_roundw
   case rel=>exact⟨1,by omega,by simp,hB9,by rw[if_neg oM];simpa using hown8⟩
   case measure=>simp[intOf]
  ·obtain rfl:k=1:=by omega
   rw[if_neg oM]at hown;go_wp2;go_ret;refine⟨_,rfl,?_,hb⟩;rcases hown.2 with⟨-,h0⟩|⟨g,cap,cur,rfl,h1,h2,h3,h4,h5,h6⟩
   ·omega
   ·refine⟨g,cap,cur,rfl,h3,h4,h2,?_,?_⟩
    ·have:(cur.toList.take 2)[0]?=some (.int .i64 R):=by rw[h6];rfl
     rw[List.getElem?_take_of_lt oM]at this;simpa using this
    ·have:(cur.toList.take 2)[1]?=some (.int .i64 C):=by rw[h6];rfl
     rw[List.getElem?_take_of_lt oM]at this;simpa using this
theorem Tryz.infoNt:(Tryz.prog.info? 3).map (fun i=>(i.zero,i.size,i.bytes))=some (some (.int .i64 0),1,8):=by kernel_rfl
theorem Tryz.cellsN:Tryz.prog.cellsOf 3=1:=by kernel_rfl
theorem zIL(W:World)(a b c d:Int):(Op.equalIn 10000 tP (.agg #[.int .i64 a,.int .i64 b]) (.agg #[.int .i64 c,.int .i64 d])).run Tryz.prog W= .ok (decide (a=c/\b=d)) W:=by
 obtain⟨i0,hi,-,hz1,-⟩:=info_parts Tryz.infoNt;have hp:∀(xs:Array Value) (i:Nat) (v:Value),xs[i]?=some v->(part 3 xs i).run Tryz.prog W= .ok v W:=by
  intro xs i v h;simp[part,isAgg,run_underlying Tryz.underlying3,h,go_sem]
 rw[run_equalIn_array W 9999 _ _ Tryz.underlying337 hi,Tryz.cellsN];have he:∀x y:Int,(Op.equalIn 9999 3 (.int .i64 x) (.int .i64 y)).run Tryz.prog W= .ok (x==y) W:=fun x y=>run_equalIn_int W 9998 3 .i64 .i64 x y Tryz.underlying3
 have p0:=hp #[.int .i64 a,.int .i64 b] 0 _ rfl;have p1:=hp #[.int .i64 a,.int .i64 b] 1 _ rfl;have q0:=hp #[.int .i64 c,.int .i64 d] 0 _ rfl;have q1:=hp #[.int .i64 c,.int .i64 d] 1 _ rfl;have hr:List.range 2= [0,1]:=rfl;rw[hr];simp only[Op.eqItems,Sem.run_bind,Nat.zero_mul,Nat.one_mul,p0,p1,q0,q1,Result.andThen_ok,he];by_cases h1:a=c
 ·by_cases h2:b=d
  ·simp[h1,h2,go_sem]
  ·simp[h1,h2,go_sem]
 ·simp[h1,go_sem]
theorem zHN(v1 v2:Value)(R1 C1 R2 C2:Int)(w:World)(h1:zDr R1 C1 w v1)(h2:zDr R2 C2 w v2):
  Calls Tryz.prog 294 #[v1,v2] w fun e w'=>e= .returned (.bool (decide (R1=R2/\C1=C2)))/\Below w.heap.size w w':=by
 obtain⟨ans,hans⟩:∃ans:Bool,decide (R1=R2/\C1=C2)=ans:=⟨_,rfl⟩;rw[hans];have HA:=xgv hans;obtain⟨g1,cap1,cs1,rfl,k1,k2,b1,e1,e2⟩:=h1;obtain⟨g2,cap2,cs2,rfl,l1,l2,b2,f1,f2⟩:=h2;have heq:=fun W=>zIL W R1 C1 R2 C2
 rw[hans]at heq;clear hans;go_enter Tryz.func294,Tryz.ntmps294;go_wp2;go_loopw [13] (fun iv wr=>∃k:Nat,k<=1/\iv= .int .i64 k/\Below w.heap.size w wr/\qE (0<k->R1=R2/\C1=C2)) (fun iv _=>1-(intOf iv).toNat)
 case atStart=>exact⟨0,by omega,rfl,Below.refl _ _,⟨fun h=>by omega⟩⟩
 case round=>
  obtain⟨k,hk,rfl,hb,hall⟩:=hrel;by_cases hk0:k=0
  ·subst hk0
   have p1:=((b1.below hb).cell 0).trans e1;have p2:=((b1.below hb).cell 1).trans e2;have q1:=((b2.below hb).cell 0).trans f1;have q2:=((b2.below hb).cell 1).trans f2;go_upto_region 6 with(fail)
   refine zE rfl (RV wr _ [VSl 0 16 g1 1 cap1,VN 1 17 0,VP 2 18 g1 0,E 3 19 (.agg #[.int .i64 R1,.int .i64 C1]),VSl 4 20 g2 1 cap2,VN 5 21 0,VP 6 22 g2 0,E 7 23 (.agg #[.int .i64 R2,.int .i64 C2]),E 8 24 (.bool (!ans))]) kR RV.start (RV.fin kR ?fin1) ?steps1
   case steps1=>
    (repeat' constructor)<;>(intro L T wS hL hd hcl hI K hK;try refine zA rfl ?_)
    ·exact xgs (hI.k 0 rfl kR)
    ·exact xgs (hI.k 5 rfl kR)
    ·exact xgt (hI.e mm0 (hd 0)) (hI.e mm1 (hd 1))
    ·have zt2:=hI.e mm2 (hd 2)
     have cc0:=hI.cell p1;have cc1:=hI.cell p2;exact xgu
    ·exact xgs (hI.k 1 rfl kR)
    ·exact xgs (hI.k 5 rfl kR)
    ·exact xgt (hI.e mm4 (hd 4)) (hI.e mm5 (hd 5))
    ·have zt6:=hI.e mm6 (hd 6)
     have cc0:=hI.cell q1;have cc1:=hI.cell q2;exact xgu
    ·exact xgt (hI.e mm3 (hd 3)) (hI.e mm7 (hd 7))
   intro w9 hbw9 T hT;simp only[Fin,E,EI,VP,VSl,VN,xgg,xgh,xgi,xgj]at hT;subst hT;cases ans with
   |true=>
    clear heq;go_wp2;go_roundw
    case rel=>exact⟨1,by omega,by simp,nx hb hbw9,⟨fun _=>of_decide_eq_true HA.out⟩⟩
    case measure=>simp[intOf]
   |false=>
    clear heq;go_wp2;go_ret;exact⟨rfl,nx hb hbw9⟩
  ·obtain rfl:k=1:=by omega
   go_wp2;go_ret;refine⟨?_,hb⟩;have h3:ans=true:=by rw[<-HA.out];exact decide_eq_true (hall.out oM)
   rw[h3];rfl
theorem zO5(b:Nat)(c:Nat)(R1 C1 R2 C2:Int)(A1 A2:Value)(M1 M2:List (List Int))(w:World)(hb0:Blk w b tM #[.int .i64 R1,.int .i64 C1,A1,.int .i64 R2,.int .i64 C2,A2])(hc:2<=c)(hc2:c<=9223372036854775807)
  (h1:zIY w (.agg #[.int .i64 R1,.int .i64 C1,A1]) R1 C1 M1) (h2:zIY w (.agg #[.int .i64 R2,.int .i64 C2,A2]) R2 C2 M2) (v1:qX R1 C1 M1) (v2:qX R2 C2 M2):
  Calls Tryz.prog 293 #[.slice (some ⟨b,0,none⟩) 2 c] w fun e w'=>∃v,e= .returned v/\v= .bool true/\Below w.heap.size w w':=by
 refine(zJ6 b c R1 C1 R2 C2 A1 A2 M1 M2 w hb0 hc hc2 h1 h2).mono ?_;rintro e w' ⟨rfl,hb⟩;exact⟨_,rfl,by rw[decide_eq_true ⟨v1,v2⟩],hb⟩
theorem zJy(v1 v2:Value)(R C:Int)(w:World)(h1:zDr R C w v1)(h2:zDr R C w v2):
  Calls Tryz.prog 294 #[v1,v2] w fun e w'=>∃v,e= .returned v/\v= .bool true/\Below w.heap.size w w':=by
 refine(zHN v1 v2 R C R C w h1 h2).mono ?_;rintro e w' ⟨rfl,hb⟩;exact⟨_,rfl,by rw[decide_eq_true ⟨rfl,rfl⟩],hb⟩
def zQZ(a b c d e f:Value):World->Value->Prop:=fun w v=>∃g,v= .slice (some ⟨g,0,none⟩) 2 2/\Blk w g tM #[a,b,c,d,e,f]
def zQB(a b c:Value):World->Value->Prop:=fun w v=>∃g,v= .slice (some ⟨g,0,none⟩) 1 1/\Blk w g tM #[a,b,c]
theorem zHz(a b c d e f:Value):qK (zQZ a b c d e f):=fun _ _ _ x ⟨g,h1,h2⟩=>⟨g,h1,h2.below x⟩
theorem zHy(a b c:Value):qK (zQB a b c):=fun _ _ _ x ⟨g,h1,h2⟩=>⟨g,h1,h2.below x⟩
def zP9(w:World)(R C:Nat)(M:List (List Int))(e:Ending)(w':World):Prop:=∃v bs,e= .returned (.tuple #[v,.int .i64 0])/\zPF w' w.heap.size v R C bs M/\Below w.heap.size w w'
theorem zMP(A:Value)(M:List (List Int))(R C:Nat)(k:Int)(kb:Nat)(x y:Value)(w:World)(h:zIY w (.agg #[.int .i64 R,.int .i64 C,A]) R C M)(hF:jT R C M)(hR:R<=1000000)(hC:C<=1000000)
  (hk:Blk w kb tI #[x,y]) (hkv:zH w (.agg #[x,y]) k) (hS:∀r∈M,∀z∈r,Sm z) (s2:Sm k):
  Calls Tryz.prog 255 #[.agg #[.int .i64 R,.int .i64 C,A],.agg #[.int .i64 R,.int .i64 C,A],.func (.func 256) #[] #[.pointer (some ⟨kb,0,none⟩)]] w (zP9 w R C (zY R C (fun i j=>k*ent M i j))):=by
 have hmf:∀(fn:Fn) (first cap:Array Value) (w:World),(Instr.makeFunc fn first cap).run Tryz.prog w= .ok (.func fn first cap) w:=fun _ _ _ _=>rfl
 have h0:=h;obtain⟨A',eA,h⟩:=h;obtain rfl:A=A':=by
  injection eA with eA
  simp only[Array.mk.injEq,List.cons.injEq]at eA;exact eA.2.2.1
 obtain⟨ao,n,cap,rfl,e2,e3,e4,-⟩:=id h;have HF:=xgv hF;have HV:=xgv hF.valid;have HS:=xgv hS;have HK:=xgv s2;have HH:=xgv h;have HH0:=xgv h0;obtain⟨G,hG⟩:∃G:Nat->Nat->Int,(fun i j=>k*ent M i j)=G:=⟨_,rfl⟩;rw[hG];have HG:=xgv hG;clear hF hS s2 hG e2 h h0 eA;have hl1:=zHz (.int .i64 R) (.int .i64 C) (.slice ao n cap) (.int .i64 R) (.int .i64 C) (.slice ao n cap);have hl2:=zHy (.int .i64 R) (.int .i64 C) (.slice ao n cap);have hl3:=zGy R C;go_enter Tryz.func255,Tryz.ntmps255;go_upto_region 1 with(fail)
 refine zB ?_;intro W0 hW0;obtain⟨hB0,bx1,bx2,bf,br,hs0⟩:=zFn hW0;obtain⟨c1,c2,c3,c4,c5,c6⟩:=bx1.three;obtain⟨d1,d2,d3,d4,d5,d6⟩:=bx2.three;clear hW0;refine zE rfl (RV W0 _ [E 0 9 (.agg #[.int .i64 R,.int .i64 C,.slice ao n cap]),E 1 10 (.agg #[.int .i64 R,.int .i64 C,.slice ao n cap]),⟨2,11,zQZ (.int .i64 R) (.int .i64 C) (.slice ao n cap) (.int .i64 R) (.int .i64 C) (.slice ao n cap)⟩,E 3 12 (.bool true),E 4 13 (.bool false),E 5 14 (.bool false),E 6 15 (.agg #[.int .i64 R,.int .i64 C,.slice ao n cap]),⟨7,16,zQB (.int .i64 R) (.int .i64 C) (.slice ao n cap)⟩,⟨8,17,zDr R C⟩,E 9 18 (.agg #[.int .i64 R,.int .i64 C,.slice ao n cap]),⟨10,19,zQB (.int .i64 R) (.int .i64 C) (.slice ao n cap)⟩,⟨11,20,zDr R C⟩,E 12 21 (.bool true),E 13 22 (.bool false),E 14 23 (.bool false)]) kR RV.start (RV.fin kR ?fin1) ?steps1
 case steps1=>
  (repeat' constructor)<;>(intro L T wS hL hd hcl hI K hK;try refine zA rfl ?_)
  ·have zt:=hI.k 3 rfl kR
   have cc0:=hI.cell c1;have cc1:=hI.cell c2;have cc2:=hI.cell c3;exact xgu
  ·have zt:=hI.k 4 rfl kR
   have cc0:=hI.cell d1;have cc1:=hI.cell d2;have cc2:=hI.cell d3;exact xgu
  ·have zt0:=hI.e mm0 (hd 0)
   have zt1:=hI.e mm1 (hd 1);go_simp;exact hK _ _ ((hI.world ((Below.refl _ _).alloc (xgf _) _)).y mm2 ⟨_,rfl,Blk.new _ _ _⟩)
  ·obtain⟨v2,zt2,h2⟩:=hI.v mm2 (hd 2)
   obtain⟨g2,rfl,gb2⟩:=h2;go_simp;refine(zO5 g2 2 R C R C _ _ M M _ gb2 (xgf _) oM ((HH0.out.below hB0).below hI.bel) ((HH0.out.below hB0).below hI.bel) HV.out HV.out).mono ?_;rintro e wa ⟨v,rfl,hv,hba⟩;exact hK _ _ ((hI.world hba).y mm3 hv)
  ·exact xgs (hI.e mm3 (hd 3))
  ·exact xgs (hI.e mm4 (hd 4))
  ·have zg:=hI.e mm5 (hd 5)
   refine zA xgp ?_;have zt:=hI.k 3 rfl kR;have cc0:=hI.cell c1;have cc1:=hI.cell c2;have cc2:=hI.cell c3;exact xgu
  ·have zg:=hI.e mm5 (hd 5)
   refine zA xgp ?_;have zt6:=hI.e mm6 (hd 6);go_simp;exact hK _ _ ((hI.world ((Below.refl _ _).alloc (xgf _) _)).y mm7 ⟨_,rfl,Blk.new _ _ _⟩)
  ·have zg:=hI.e mm5 (hd 5)
   refine zA xgp ?_;obtain⟨v7,zt7,h7⟩:=hI.v mm7 (hd 7);obtain⟨g7,rfl,gb7⟩:=h7;go_simp;refine(zHM g7 1 R C _ _ gb7 ⟨_,_,_,rfl⟩ (xgf _) oM).mono ?_;rintro e wa ⟨v,rfl,hv,hba⟩;exact hK _ _ ((hI.world hba).y mm8 hv)
  ·have zg:=hI.e mm5 (hd 5)
   refine zA xgp ?_;have zt:=hI.k 4 rfl kR;have cc0:=hI.cell d1;have cc1:=hI.cell d2;have cc2:=hI.cell d3;exact xgu
  ·have zg:=hI.e mm5 (hd 5)
   refine zA xgp ?_;have zt9:=hI.e mm9 (hd 9);go_simp;exact hK _ _ ((hI.world ((Below.refl _ _).alloc (xgf _) _)).y zAB ⟨_,rfl,Blk.new _ _ _⟩)
  ·have zg:=hI.e mm5 (hd 5)
   refine zA xgp ?_;obtain⟨v10,zt10,h10⟩:=hI.v zAB (hd 10);obtain⟨g10,rfl,gb10⟩:=h10;go_simp;refine(zHM g10 1 R C _ _ gb10 ⟨_,_,_,rfl⟩ (xgf _) oM).mono ?_;rintro e wa ⟨v,rfl,hv,hba⟩;exact hK _ _ ((hI.world hba).y zAG hv)
  ·have zg:=hI.e mm5 (hd 5)
   refine zA xgp ?_;obtain⟨v8,zt8,h8⟩:=hI.v mm8 (hd 8);obtain⟨v11,zt11,h11⟩:=hI.v zAG (hd 11);go_simp;refine(zJy _ _ R C _ h8 h11).mono ?_;rintro e wa ⟨v,rfl,hv,hba⟩;exact hK _ _ ((hI.world hba).y zAs hv)
  ·have zg:=hI.e mm5 (hd 5)
   refine zA xgp ?_;exact xgs (hI.e zAs (hd 12))
  ·exact xgt (hI.e mm5 (hd 5)) (hI.e zCS (hd 13))
 intro w1 hbw1 T hT;simp only[Fin,E,EI,VP,VSl,VN,xgg,xgh,xgi,xgj]at hT;obtain⟨va2,ha2,va7,ha7,va8,ha8,va10,ha10,va11,ha11,rfl⟩:=hT;have hBt:=nx hB0 hbw1;have bx1:=bx1.below hbw1;have bx2:=bx2.below hbw1;have bf:=bf.below hbw1;have br:=br.below hbw1;have hszb:=hBt.size;have hszb1:=hbw1.size;clear c1 c2 c3 c4 c5 c6 d1 d2 d3 d4 d5 d6 ha2 ha7 ha8 ha10 ha11;obtain⟨c1,c2,c3,c4,c5,c6⟩:=bx1.three;obtain⟨d1,d2,d3,d4,d5,d6⟩:=bx2.three;go_wp2_with fail
 refine(zKV _ M R C k (w.heap.size+1+1) kb x y w1 (HH.out.below hBt) HF.out hR hC bf (hk.below hBt) (hkv.ext (lx hBt)) HS.out HK.out).mono ?_;rintro e w2 ⟨rfl,⟨bs,hbl,ho⟩,hb2⟩;rw[HG.out]at ho;have hBt2:=nx hBt hb2;have bx1:=bx1.below hb2;have br:=br.below hb2;clear c1 c2 c3 c4 c5 c6 d1 d2 d3 d4 d5 d6;obtain⟨c1,c2,c3,c4,c5,c6⟩:=bx1.three;obtain⟨r1,r2,r3,r4,r5,r6⟩:=br.three;have lr:=br.lt;go_wp2;refine bodyPost_ret (zFf rfl _ rfl (br.put3 _ _ _) rfl) rfl ⟨_,bs,rfl,⟨hbl,_,rfl,?_⟩,zO (zO (zO hBt2 oM 0 _) oM 1 _) oM 2 _⟩;exact(ho.keep (fun k hk=>yY _ _ k _ _ _ oM) (br.lext3 dE _ _ _)).mono oM
theorem zJg(v kv:Value)(M:List (List Int))(R C:Nat)(k:Int)(w:World)(h:zIY w v R C M)(hF:jT R C M)(hk:zH w kv k)(hR:R<=1000000)(hC:C<=1000000)
  (hS:∀r∈M,∀z∈r,Sm z) (s2:Sm k):
  Calls Tryz.prog 217 #[v,kv] w (zBB w R C (zY R C (fun i j=>k*ent M i j))):=by
 have hmf:∀(fn:Fn) (first cap:Array Value) (w:World),(Instr.makeFunc fn first cap).run Tryz.prog w= .ok (.func fn first cap) w:=fun _ _ _ _=>rfl
 have h0:=h;obtain⟨A,rfl,h⟩:=h;obtain⟨ao,n,cap,rfl,e2,e3,e4,-⟩:=id h;obtain⟨kn,ka,kl,kc,kx,rfl,hkx⟩:=id hk;have HF:=xgv hF;have HS:=xgv hS;have HK:=xgv s2;clear hF hS s2 hkx e2;obtain⟨G,hG⟩:∃G:Nat->Nat->Int,(fun i j=>k*ent M i j)=G:=⟨_,rfl⟩;rw[hG];have HG:=xgv hG;clear hG;go_enter Tryz.func217,Tryz.ntmps217;go_upto_region 1 with(fail)
 refine zB ?_;intro W0 hW0;obtain⟨hB0,bx1,bk,br,hs0⟩:=yO hW0;obtain⟨c1,c2,c3,c4,c5,c6⟩:=bx1.three;clear hW0;go_wp2_with fail
 refine(zMP _ M R C k (w.heap.size+1) _ _ W0 (h0.below hB0) HF.out hR hC bk (hk.ext (lx hB0)) HS.out HK.out).mono ?_;rintro e w1 ⟨u,bs,rfl,⟨hbl,A2,rfl,ho⟩,hb1⟩;rw[HG.out]at ho;obtain⟨oo,on,oc,rfl,-,-,-,-⟩:=id ho.rows;have hBt:=nx hB0 hb1;have br:=br.below hb1;have hszb:=hb1.size;clear c1 c2 c3 c4 c5 c6;go_upto_region 2 with(fail)
 refine zB ?_;intro W3 hW3;obtain⟨hB3,T5,hs3⟩:=zK hW3;have br:=br.below hB3;have ho:=ho.below hB3;have hBt:=nx hBt hB3;obtain⟨c1,c2,c3,c4,c5,c6⟩:=T5.three;obtain⟨r1,r2,r3,r4,r5,r6⟩:=br.three;have lr:=br.lt;clear hW3;go_wp2;refine yE rfl rfl rfl (br.put3 _ _ _) ⟨_,bs,rfl,⟨hbl,_,rfl,?_⟩,zO (zO (zO hBt oM 0 _) oM 1 _) oM 2 _⟩;exact(ho.keep (fun k hk=>yY _ _ k _ _ _ oM) (br.lext3 dE _ _ _)).mono oM
def zCb(zs:List Int)(M:List (List Int))(m j:Nat):Int:=zLr (fun t=>zs.getD t 0*ent M t j) m
def zBu(zs:List Int)(M:List (List Int))(m C:Nat):Prop:=∀j,j<C->∀t,t<m->Sm (zs.getD t 0)/\Sm (ent M t j)/\Sm (zs.getD t 0*ent M t j)/\Sm (zCb zs M t j)
theorem zDD(zs:List Int)(M:List (List Int))(m j:Nat):zCb zs M (m+1) j=zCb zs M m j+zs.getD m 0*ent M m j:=rfl
theorem zLd(w:World)(n:Nat)(f:Nat->Int)(hf:∀t,t<n->f t=0):qC (w.alloc (.cells (zeroCells n) tI)) w.heap.size (zM n f):=by
 have h4:=zDC w n;have h5:List.replicate n (0:Int)=zM n f:=by
  apply List.ext_getElem
  ·simp[zM]
  ·intro i h1 h2
   simp[zM]at h2;simp[zM,hf i h2]
 rwa[h5]at h4
theorem zJh(v mv:Value)(zs:List Int)(M:List (List Int))(m C:Nat)(w:World)(hv0:qN w v zs)(hM:jE w mv m C M)(hl:zs.length=m)(hF:jT m C M)(hm:m<=1000000)(hC:C<=1000000)(hS:zBu zs M m C):
  Calls Tryz.prog 167 #[v,mv] w fun e w'=>∃v,e= .returned v/\zDp w.heap.size C (zM C (zCb zs M m)) w' v/\Below w.heap.size w w':=by
 obtain⟨A,rfl,hM⟩:=hM;obtain⟨ao,n,cap,rfl,e2,e3,e4,-⟩:=id hM;obtain rfl:m=n:=by rw[<-e2,hF.1]
 obtain⟨vo,n1,vcap,rfl,f1,f3,f4,-⟩:=id hv0;obtain rfl:m=n1:=by omega
 have hmk:=fun W=>mkI (C:Int) C rfl oM W
 have HL:=xgv hl;have HF:=xgv hF;have HS:=xgv hS;clear hl hF hS e2 f1;go_enter Tryz.func167,Tryz.ntmps167;go_upto_region 1 with(fail)
 refine zB ?_;intro W0 hW0;obtain⟨hB0,bx,hs0⟩:=zK hW0;obtain⟨c1,c2,c3,c4,c5,c6⟩:=bx.three;clear hW0;go_upto_region 2 with(fail)
 refine zB ?_;intro W1 hW1;obtain⟨hB1,-,hs1⟩:=zK hW1;have hr:qC W1 W0.heap.size (zM C (zCb zs M 0)):=by
  rw[hW1.out];exact zLd W0 C _ (fun _ _=>rfl)
 have bx:=bx.below hB1;have hB:=nx hB0 hB1;clear hW1 hmk c1 c2 c3 c4 c5 c6;go_wp2;go_loopw [15] (fun iv wr=>∃i:Nat,i<=m/\iv= .int .i64 i/\Below w.heap.size w wr/\Blk wr w.heap.size tM #[.int .i64 m,.int .i64 C,.slice ao m cap]/\qC wr W0.heap.size (zM C (zCb zs M i))) (fun iv _=>m-(intOf iv).toNat)
 case atStart=>exact⟨0,by omega,rfl,hB,bx,hr⟩
 case round=>
  obtain⟨i,hi,rfl,hb,bx,hr⟩:=hrel;have hB0s:=hB0.size;by_cases hlt:i<m
  ·obtain ⟨b1,x,s1,a1,l1,k1,rfl,hbl1,hz1,p1,p2,hx⟩:=(hv0.below hb).cell (k:=i) (by rw[HL.out];exact hlt)
   have hzx:qE (zs.getD i 0=x):=⟨zBQ hz1⟩;have hbs:=hb.size;have lbx:=bx.lt;have lr:=hr.lt;clear hz1;go_upto_region 5 with(fail)
   refine zB ?_;intro W6 hW6;obtain⟨hB6,T7,hs6⟩:=zK hW6;obtain⟨d1,d2,d3,d4⟩:=T7.two;have hx:=hx.ext (lx hB6);have bx:=bx.below hB6;have hr:=hr.below hB6;have hb:=nx hb hB6;clear p1 p2 hW6;go_wp2_with fail
   refine(qV _ x W6 hx.weak).mono ?_;rintro e w7 ⟨rfl,hb7⟩;have hx:=hx.ext (lx hb7);have bx:=bx.below hb7;have hr:=hr.below hb7;have T7:=T7.below hb7;have hb:=nx hb hb7;clear d1 d2 d3 d4;by_cases hx0:x=0
   ·rw[zA3 hx0]
    have hq:qE (zM C (zCb zs M i)=zM C (zCb zs M (i+1))):=⟨zQ fun t _=>by rw[zDD,hzx.out,hx0,Int.zero_mul,Int.add_zero]⟩;clear hx0;go_wp2;go_roundw
    case rel=>exact⟨i+1,by omega,by simp,hb,bx,hq.out ▸ hr⟩
    case measure=>simp[intOf];omega
   ·have hc:=zCf hx0
    obtain⟨k0,hk0⟩:∃k0,qJ x 0=k0:=⟨_,rfl⟩;rw[hk0]at hc ⊢
    clear hk0 hx0;obtain⟨b2,ra,rn,rc,ys,rfl,hbl2,hz2,o1,hv⟩:=hM.row (k:=i) (by rw[HF.out.1];exact hlt);have hyl:=HF.out.2 ys (xgd hz2);have hvl:=hv.len;obtain rfl:C=rn:=by omega
    have HZ:=xgv (And.intro hz2 hyl);have o1:=zI o1 hb;obtain⟨c1,c2,c3,c4,c5,c6⟩:=bx.three;obtain⟨hvl1,hvl2,hvl3⟩:=hvl;have hst:zM C (zCb zs M i)=zM C (qA (zCb zs M (i+1)) (zCb zs M i) 0):=zQ fun t _=>by unfold qA;rw[if_neg oM]
    rw[hst]at hr;clear hz2 hyl hvl1 hst;go_wp2;rw[show(k0==0)=false by simpa using hc];clear hc o1 c1 c2 c3 c4 c5 c6;go_loopw [29] (fun jv wt=>∃j:Nat,j<=C/\jv= .int .i64 j/\Below w.heap.size w wt/\Blk wt w.heap.size tM #[.int .i64 m,.int .i64 C,.slice (some ⟨b2,0,none⟩) m cap]/\qC wt W0.heap.size (zM C (qA (zCb zs M (i+1)) (zCb zs M i) j))/\Blk wt wr.heap.size tI #[.bool s1,.slice a1 l1 k1]/\zH wt (.agg #[.bool s1,.slice a1 l1 k1]) x) (fun jv _=>C-(intOf jv).toNat)
    case atStart=>exact⟨0,by omega,rfl,hb,bx,hr,T7,hx⟩
    case round=>
     rename World=>wt
     obtain⟨j,hj,rfl,hb,bx,hr,T7,hx⟩:=hrel;by_cases hjc:j<C
     ·obtain⟨b3,y,s2,a2,l2,k2,rfl,hbl3,hz3,q1,q2,hy⟩:=(hv.below hb).cell (k:=j) (by rw[HZ.out.2];exact hjc)
      have hzy:qE (ent M i j=y):=⟨zBE HZ.out.1 hz3⟩;have hbs2:=hb.size;have lbx:=bx.lt;have lr:=hr.lt;have l7:=T7.lt;clear hz3;go_upto_region 9 with(fail)
      refine zB ?_;intro W8 hW8;obtain⟨hB8,T9,hs8⟩:=zK hW8;obtain⟨d1,d2,d3,d4⟩:=T9.two;have hx:=hx.ext (lx hB8);have hy:=hy.ext (lx hB8);have bx:=bx.below hB8;have hr:=hr.below hB8;have T7:=T7.below hB8;have hb:=nx hb hB8;clear q1 q2 hW8;go_wp2_with fail
      refine(qV _ y W8 hy.weak).mono ?_;rintro e w9 ⟨rfl,hb9⟩;have hx:=hx.ext (lx hb9);have hy:=hy.ext (lx hb9);have bx:=bx.below hb9;have hr:=hr.below hb9;have T7:=T7.below hb9;have T9:=T9.below hb9;have hb:=nx hb hb9;clear d1 d2 d3 d4;by_cases hy0:y=0
      ·rw [zA3 hy0]
       have hq:qE (zM C (qA (zCb zs M (i+1)) (zCb zs M i) j)=zM C (qA (zCb zs M (i+1)) (zCb zs M i) (j+1))):=⟨zQ fun t _=>by
        unfold qA;by_cases h1:t<j
        ·rw[if_pos h1,if_pos oM]
        ·by_cases h2:t=j
         ·subst h2
          rw[if_neg h1,if_pos oM,zDD,hzy.out,hy0,Int.mul_zero,Int.add_zero]
         ·rw[if_neg h1,if_neg oM]⟩
       clear hy0;go_wp2;go_roundw
       case rel=>exact⟨j+1,by omega,by simp,hb,bx,hq.out ▸ hr,T7,hx⟩
       case measure=>simp[intOf];omega
      ·have hc2:=zCf hy0
       obtain⟨k1',hk1⟩:∃k1,qJ y 0=k1:=⟨_,rfl⟩;rw[hk1]at hc2 ⊢
       clear hk1 hy0;obtain⟨n1,n2,n3,n4,r1,r2,-,-,hacc⟩:=hr.cell (zP hjc);have hua:qA (zCb zs M (i+1)) (zCb zs M i) j j=zCb zs M i j:=by unfold qA;rw[if_neg oM]
       rw[hua]at hacc;obtain⟨d1,d2,d3,d4⟩:=T7.two;obtain⟨e1,e2,e3',e4'⟩:=T9.two;have lbx:=bx.lt;have lr:=hr.lt;have l7:=T7.lt;have l9:=T9.lt;have hsm:=HS.out j hjc i hlt;rw[hzx.out,hzy.out]at hsm;have HSM:=xgv hsm;clear hsm hua;go_upto_region 10 with(fail)
       refine zC 11 rfl (RI w9 (w9.heap.size) _ 35
         [VSl 0 37 W0.heap.size C C,VN 1 38 j,VSl 2 39 W0.heap.size C C,VN 3 40 j,VP 4 41 W0.heap.size (j*2),E 5 42 (.agg #[.bool n1,.slice n2 n3 n4]),E 6 43 (.agg #[.bool s1,.slice a1 l1 k1]),E 7 44 (.agg #[.bool s2,.slice a2 l2 k2]),EI 8 45 (x*y),EI 9 46 (zCb zs M i j+x*y),VP 10 47 W0.heap.size (j*2)] [] []) kR RI.start (RI.fin kR ?fin1) ?steps1
       case steps1=>
        (repeat' constructor)<;>(intro L T wS hL hd hcl hI K hK;try refine zA rfl ?_)
        ·exact xgs (hI.k 5 rfl kR)
        ·exact xgs (hI.k 8 rfl kR)
        ·exact xgs (hI.k 5 rfl kR)
        ·exact xgs (hI.k 8 rfl kR)
        ·exact xgt (hI.e mm2 (hd 2)) (hI.e mm3 (hd 3))
        ·have zt4:=hI.e mm4 (hd 4)
         have cc0:=hI.cell r1 oM nom;have cc1:=hI.cell r2 oM nom;exact xgu
        ·have zt:=hI.k 7 rfl kR
         have cc0:=hI.cell d1 oM nom;have cc1:=hI.cell d2 oM nom;exact xgu
        ·have zt:=hI.k 9 rfl kR
         have cc0:=hI.cell e1 oM nom;have cc1:=hI.cell e2 oM nom;exact xgu
        ·have zt6:=hI.e mm6 (hd 6)
         have zt7:=hI.e mm7 (hd 7);go_simp;refine(jO _ _ x y _ (hx.ext hI.lext).weak (hy.ext hI.lext).weak HSM.out.1 HSM.out.2.1).mono ?_;exact xgo
        ·have zt5:=hI.e mm5 (hd 5)
         obtain⟨v8,zt8,h8⟩:=hI.vi mm8 (hd 8);go_simp;refine(zBw _ _ (zCb zs M i j) (x*y) _ (hacc.ext hI.lext).weak h8.weak HSM.out.2.2.2 HSM.out.2.2.1).mono ?_;exact xgo
        ·exact xgt (hI.e mm0 (hd 0)) (hI.e mm1 (hd 1))
       intro wv hlwv hbwv holdwv T hT;simp only[Fin,E,EI,VP,VSl,VN,xgg,xgh,xgi,xgj]at hT;obtain⟨va8,ha8,va9,ha9,rfl⟩:=hT;simp only[xgl,xgk];obtain⟨pn,pa,pl,pc,px,rfl,hpx⟩:=id ha9;have HPX:=xgw hpx;have hr:=hr.below hbwv;have bx:=bx.below hbwv;have T7:=T7.below hbwv;have hx:=hx.ext (lx hbwv);have hb:=nx hb hbwv;obtain⟨m1,m2,m3,m4,z1,z2,z3,z4,-⟩:=hr.cell (zP hjc);have hset:=hr.set (k:=j) (by rw[zD];exact hjc) ha9;rw[zEJ (by rw[zDD,hzx.out,hzy.out])]at hset;clear hpx d1 d2 d3 d4 e1 e2 e3' e4' r1 r2;go_wp2;go_roundw
       case rel=>exact⟨j+1,by omega,by simp,zO (zO hb oM _ _) oM _ _,(zV _ _ _ _ _ _ _ oM).trans bx,hset.1,(zV _ _ _ _ _ _ _ oM).trans T7,hx.ext hset.2⟩
       case measure=>simp[intOf];omega
     ·obtain rfl:j=C:=by omega
      have hq:zM j (qA (zCb zs M (i+1)) (zCb zs M i) j)=zM j (zCb zs M (i+1)):=zQ fun t ht=>by unfold qA;rw[if_pos ht]
      rw[hq]at hr;go_wp2;go_roundw
      case rel=>exact⟨i+1,by omega,by simp,hb,bx,hr⟩
      case measure=>simp[intOf];omega
  ·obtain rfl:i=m:=by omega
   go_wp2;go_ret;exact⟨_,rfl,⟨_,rfl,hB0s,hr⟩,hb⟩
def zN3(R C:Nat):World->Value->Prop:=fun w v=>∃g,v= .slice (some ⟨g,0,none⟩) R R/\Blk w g tR (yA R C [])
def zQX:World->Value->Prop:=fun w v=>∃g,v= .pointer (some ⟨g,0,none⟩)/\Blk w g tM #[.int .i64 0,.int .i64 0,.slice none 0 0]
def zNx(n:Nat)(P:World->Value->Prop):World->Value->Prop:=fun w v=>P w v/\∀b o,(v= .pointer (some ⟨b,o,none⟩)∨∃l c,v= .slice (some ⟨b,o,none⟩) l c)->n<=b
def zP6(n R C:Nat):World->Value->Prop:=fun w v=>∃s,v= .agg #[.int .i64 R,.int .i64 C,s]/\zNx n (zN3 R C) w s

def zDs(R C:Nat)(F:Nat->Nat->Int)(lo hi:Nat):World->Value->Prop:=fun w v=>∃o c bs,v= .agg #[.int .i64 R,.int .i64 C,.slice o R c]/\Wri w (.slice o R c) R C bs F/\∀b,Zn (.slice o R c) bs b->lo<=b/\b<hi
theorem zDs.below{R C:Nat}{F:Nat->Nat->Int}{lo hi:Nat}{w w':World}{v:Value}(h:zDs R C F lo hi w v)(hb:Below w.heap.size w w'):zDs R C F lo hi w' v:=by
 obtain⟨o,c,bs,h1,h2,h3⟩:=h;exact⟨o,c,bs,h1,h2.below hb,h3⟩
theorem zBB.within{w w':World}{R C:Nat}{F:Nat->Nat->Int}{e:Ending}(h:zBB w R C (zY R C F) e w'):∃v,e= .returned v/\zDs R C F w.heap.size w'.heap.size w' v/\Below w.heap.size w w':=by
 obtain⟨v,bs,rfl,⟨hl,A',rfl,ho⟩,hb⟩:=h;have hw:Wri w' A' R C bs F:=ho.mono (Nat.zero_le _);obtain⟨o,c,rfl⟩:=hw.shape;exact⟨_,rfl,⟨o,c,bs,rfl,hw,fun b hz=>⟨ho.fresh hz,hw.zlt hz⟩⟩,hb⟩
structure MS where
 op:Nat
 slot:Nat
 R:Nat
 C:Nat
 F:Nat->Nat->Int
def zJI(N:Nat)(vs:List VS)(ms:List MS):Bool:=decide ((vs.map (·.slot))++(ms.map (·.slot))).Nodup && decide ((vs.map (·.op))++(ms.map (·.op))).Nodup && ((vs.map (·.slot))++(ms.map (·.slot))).all (fun s=>decide (s<N))
theorem zD0{α:Type}{xs ys:List α}(h:(xs++ys).Nodup){a b:α}(ha:a∈xs)(hb:b∈ys):a≠b:=(List.nodup_append.1 h).2.2 a ha b hb
structure RG(W:World)(T0:Array Value)(vs:List VS)(ms:List MS)(L:Array Bool)(T:Array Value)(w:World):Prop where
 wf:zJI T0.size vs ms=true
 lv:∀s∈vs,qK s.P
 size:T.size=T0.size
 keep:∀j,(∀s∈vs,s.slot≠j)->(∀m∈ms,m.slot≠j)->T[j]?=T0[j]?
 bel:Below W.heap.size W w
 val:∀s∈vs,L[s.op]?=some true->∃v,T[s.slot]?=some v/\s.P w v
 gh:∃bot top:Nat->Nat,(∀m∈ms,L[m.op]?=some true->W.heap.size<=bot m.op/\top m.op<=w.heap.size/\∃v,T[m.slot]?=some v/\zDs m.R m.C m.F (bot m.op) (top m.op) w v)∧
  ∀m∈ms,∀m'∈ms,m.op<m'.op->L[m.op]?=some true->L[m'.op]?=some true->top m.op<=bot m'.op
section
variable {W:World} {T0:Array Value} {vs:List VS} {ms:List MS} {L:Array Bool} {T:Array Value} {w w':World}
theorem RG.parts(h:RG W T0 vs ms L T w):(vs.map (·.slot)).Nodup/\(vs.map (·.op)).Nodup/\(ms.map (·.slot)).Nodup/\(ms.map (·.op)).Nodup/\(∀s∈vs,∀m∈ms,s.slot≠m.slot/\s.op≠m.op)/\(∀s∈vs,s.slot<T0.size)/\(∀m∈ms,m.slot<T0.size):=by
 have hwf:=h.wf;unfold zJI at hwf;simp only[Bool.and_eq_true,decide_eq_true_eq,List.all_eq_true]at hwf;obtain⟨⟨w1,w2⟩,w3⟩:=hwf;refine⟨(List.nodup_append.1 w1).1,(List.nodup_append.1 w2).1,(List.nodup_append.1 w1).2.1,(List.nodup_append.1 w2).2.1,fun s hs m hm=>⟨zD0 w1 (List.mem_map.2 ⟨s,hs,rfl⟩) (List.mem_map.2 ⟨m,hm,rfl⟩),zD0 w2 (List.mem_map.2 ⟨s,hs,rfl⟩) (List.mem_map.2 ⟨m,hm,rfl⟩)⟩,
  fun s hs=>w3 _ (List.mem_append.2 (.inl (List.mem_map.2 ⟨s,hs,rfl⟩))),fun m hm=>w3 _ (List.mem_append.2 (.inr (List.mem_map.2 ⟨m,hm,rfl⟩)))⟩
theorem RG.start(hwf:zJI T0.size vs ms=true:=by kernel_rfl)(hv:∀s∈vs,qK s.P:=by repeat' (first|exact yL _|exact jC _|exact jD _ _ _|exact qZ _|assumption|refine xgm.2 ⟨?_,?_⟩|exact xgn _)){n:Nat}:RG W T0 vs ms (Array.replicate n false) T0 W.drew:=by
 have hf:∀k:Nat,(Array.replicate n false)[k]?≠some true:=by
  intro k h;rw[Array.getElem?_replicate]at h;split at h<;>simp at h
 exact⟨hwf,hv,rfl,fun _ _ _=>rfl,dr _,fun s _ h=>absurd h (hf _),fun _=>0,fun _=>0,fun m _ h=>absurd h (hf _),fun m _ m' _ _ h=>absurd h (hf _)⟩
theorem RG.world(h:RG W T0 vs ms L T w)(hb:Below w.heap.size w w'):RG W T0 vs ms L T w':=by
 obtain⟨bot,top,g1,g2⟩:=h.gh;refine⟨h.wf,h.lv,h.size,h.keep,nx h.bel hb,fun s hs hl=>by
  obtain⟨v,h1,h2⟩:=h.val s hs hl;exact⟨v,h1,h.lv s hs _ _ _ hb h2⟩,bot,top,fun m hm hl=>?_,g2⟩
 obtain⟨e1,e2,v,e3,e4⟩:=g1 m hm hl;exact⟨e1,Nat.le_trans e2 hb.size,v,e3,e4.below hb⟩
theorem RG.value{k:Nat}{v:Value}(h:RG W T0 vs ms L T w)(s:VS)(hs:s∈vs)(hk:s.op=k)(hP:s.P w v):RG W T0 vs ms (L.setIfInBounds k true) (T.setIfInBounds s.slot v) w:=by
 subst hk;obtain⟨p1,p2,p3,p4,p5,p6,p7⟩:=h.parts;obtain⟨bot,top,g1,g2⟩:=h.gh;have hm':∀m∈ms,(L.setIfInBounds s.op true)[m.op]?=some true->L[m.op]?=some true:=fun m hm hl=>zL hl (p5 s hs m hm).2
 refine⟨h.wf,h.lv,by simp[h.size],fun j h1 h2=>by rw[xgc (h1 s hs)];exact h.keep j h1 h2,h.bel,?_,bot,top,fun m hm hl=>?_,fun m hm m' hm2 hlt l1 l2=>g2 m hm m' hm2 hlt (hm' m hm l1) (hm' m' hm2 l2)⟩
 ·intro t ht hl
  by_cases he:t=s
  ·subst he
   exact⟨v,by rw[Array.getElem?_setIfInBounds_self_of_lt (by rw[h.size];exact p6 _ hs)],hP⟩
  ·have n1:t.op≠s.op:=fun e=>he (zN p2 ht hs e)
   have n2:t.slot≠s.slot:=fun e=>he (zN p1 ht hs e)
   obtain⟨u,h1,h2⟩:=h.val t ht (zL hl (Ne.symm n1));exact⟨u,by rw[xgc (Ne.symm n2)];exact h1,h2⟩
 ·obtain⟨e1,e2,u,e3,e4⟩:=g1 m hm (hm' m hm hl)
  exact⟨e1,e2,u,by rw[xgc (p5 s hs m hm).1];exact e3,e4⟩
theorem RG.v{s:VS}(h:RG W T0 vs ms L T w)(hs:s∈vs)(hl:L[s.op]?=some true):∃v,T[s.slot]?=some v/\s.P w v:=h.val s hs hl
theorem RG.y{k:Nat}{v:Value}(h:RG W T0 vs ms L T w){s:VS}(hs:s∈vs)(hP:s.P w v)(hk:s.op=k:=by rfl):RG W T0 vs ms (L.setIfInBounds k true) (T.setIfInBounds s.slot v) w:=h.value s hs hk hP
theorem RG.mat{ops:Array Oper}{k:Nat}{v:Value}(h:RG W T0 vs ms L T w)(hcl:zAQ ops L)(hL:L[k]?=some false)(m:MS)(hm:m∈ms)(hk:m.op=k)(hb:Below w.heap.size w w')(hw:zDs m.R m.C m.F w.heap.size w'.heap.size w' v)
  (hlt:(ms.all fun m'=>!decide (k<m'.op)||zD6 ops 9 m'.op k)=true):RG W T0 vs ms (L.setIfInBounds k true) (T.setIfInBounds m.slot v) w':=by
 subst hk;have h':=h.world hb;obtain⟨p1,p2,p3,p4,p5,p6,p7⟩:=h.parts;obtain⟨bot,top,g1,g2⟩:=h.gh;have hno:∀m'∈ms,m.op<m'.op->L[m'.op]?≠some true:=fun m' hm' hlt' hh=>by
  have h3:=List.all_eq_true.1 hlt m' hm';simp only[hlt',decide_true,Bool.not_true,Bool.false_or]at h3;have:=zAg hcl h3 hh;rw[hL]at this;cases this
 have hold:∀m'∈ms,m'≠m->(L.setIfInBounds m.op true)[m'.op]?=some true->L[m'.op]?=some true:=fun m' hm' hne hl=>zL hl (fun e=>hne (zN p4 hm' hm e.symm))
 refine⟨h.wf,h.lv,by simp[h.size],fun j h1 h2=>by rw[xgc (h2 m hm)];exact h.keep j h1 h2,h'.bel,?_,fun i=>if i=m.op then w.heap.size else bot i,fun i=>if i=m.op then w'.heap.size else top i,fun m' hm' hl=>?_,fun a ha b hb' hlt' l1 l2=>?_⟩
 ·intro t ht hl
  obtain⟨u,h1,h2⟩:=h'.val t ht (zL hl (Ne.symm (p5 t ht m hm).2));exact⟨u,by rw[xgc (Ne.symm (p5 t ht m hm).1)];exact h1,h2⟩
 ·by_cases he:m'=m
  ·subst he
   simp only[if_true];exact⟨h.bel.size,xgf _,v,by rw[Array.getElem?_setIfInBounds_self_of_lt (by rw[h.size];exact p7 _ hm)],hw⟩
  ·have n1:m'.op≠m.op:=fun e=>he (zN p4 hm' hm e)
   have n2:m'.slot≠m.slot:=fun e=>he (zN p3 hm' hm e)
   simp only[if_neg n1];obtain⟨e1,e2,u,e3,e4⟩:=g1 m' hm' (hold m' hm' he hl);exact⟨e1,Nat.le_trans e2 hb.size,u,by rw[xgc (Ne.symm n2)];exact e3,e4.below hb⟩
 ·by_cases hb2:b=m
  ·subst hb2
   by_cases ha2:a=b
   ·subst ha2;omega
   ·have n1:a.op≠b.op:=fun e=>ha2 (zN p4 ha hm e)
    simp only[if_true,if_neg n1];exact(g1 a ha (hold a ha ha2 l1)).2.1
  ·by_cases ha2:a=m
   ·subst ha2
    exact absurd (hold b hb' hb2 l2) (hno b hb' hlt')
   ·have n1:a.op≠m.op:=fun e=>ha2 (zN p4 ha hm e)
    have n2:b.op≠m.op:=fun e=>hb2 (zN p4 hb' hm e)
    simp only[if_neg n1,if_neg n2];exact g2 a ha b hb' hlt' (hold a ha ha2 l1) (hold b hb' hb2 l2)
theorem RG.cell{b o:Nat}{v:Value}(h:RG W T0 vs ms L T w)(hc:W.cell? ⟨b,o,none⟩=some v):w.cell? ⟨b,o,none⟩=some v:=zI hc h.bel
theorem RG.matv(h:RG W T0 vs ms L T w)(m:MS)(hm:m∈ms)(hl:L[m.op]?=some true):∃v,T[m.slot]?=some v/\∃o c,v= .agg #[.int .i64 m.R,.int .i64 m.C,.slice o m.R c]:=by
 obtain⟨bot,top,g1,g2⟩:=h.gh;obtain⟨e1,e2,v,e3,o,c,bs,e4,-⟩:=g1 m hm hl;exact⟨v,e3,o,c,e4⟩
end
structure zP3(n0 R C Cu Cw:Nat)(z:W5)(w:World)(v:Value):Prop where
 ex:∃so sc uo uc vo vc wo wc xo xc bS bU bV bW bX,v= .agg #[.int .i64 R,.int .i64 C,.slice so R sc,.int .i64 R,.int .i64 Cu,.slice uo R uc,.int .i64 R,.int .i64 Cu,.slice vo R vc,.int .i64 C,.int .i64 Cw,.slice wo C wc,.int .i64 C,.int .i64 Cw,.slice xo C xc]∧
  Wri w (.slice so R sc) R C bS z.s/\Wri w (.slice uo R uc) R Cu bU z.u/\Wri w (.slice vo R vc) R Cu bV z.v/\Wri w (.slice wo C wc) C Cw bW z.w/\Wri w (.slice xo C xc) C Cw bX z.x∧
  (∀b,Zn (.slice so R sc) bS b∨Zn (.slice uo R uc) bU b∨Zn (.slice vo R vc) bV b∨Zn (.slice wo C wc) bW b∨Zn (.slice xo C xc) bX b->n0<=b)∧
  Ap (.slice so R sc) bS (.slice uo R uc) bU/\Ap (.slice so R sc) bS (.slice vo R vc) bV/\Ap (.slice so R sc) bS (.slice wo C wc) bW/\Ap (.slice so R sc) bS (.slice xo C xc) bX/\Ap (.slice uo R uc) bU (.slice vo R vc) bV∧
  Ap (.slice uo R uc) bU (.slice wo C wc) bW/\Ap (.slice uo R uc) bU (.slice xo C xc) bX/\Ap (.slice vo R vc) bV (.slice wo C wc) bW/\Ap (.slice vo R vc) bV (.slice xo C xc) bX/\Ap (.slice wo C wc) bW (.slice xo C xc) bX
theorem yW{A A':Value}{bs bs':List Nat}{a b c d:Nat}(h:∀x,Zn A bs x->a<=x/\x<b)(h':∀x,Zn A' bs' x->c<=x/\x<d)(hbc:b<=c):Ap A bs A' bs':=fun x h1 h2=>by
 have:=h x h1;have:=h' x h2;omega
def StH(lo R C:Nat)(F:Nat->Nat->Int):World->Value->Prop:=fun w v=>∃bs,Wri w v R C bs F/\∀b,Zn v bs b->lo<=b
def StM(lo R C:Nat)(F:Nat->Nat->Int):World->Value->Prop:=fun w v=>∃o c,v= .agg #[.int .i64 R,.int .i64 C,.slice o R c]/\StH lo R C F w (.slice o R c)
def zP8(R:Nat):World->Value->Prop:=fun w v=>zBf w v R
def StB(lo R C:Nat)(F:Nat->Nat->Int):World->Value->Prop:=fun w v=>∃Ah Au Av,v= .agg #[Ah,Au,Av]/\StH lo R C F w Ah/\zBf w Au R/\zBf w Av R
def StP(lo R C:Nat)(F:Nat->Nat->Int):World->Value->Prop:=fun w v=>∃g Ah Au Av,v= .pointer (some ⟨g,0,none⟩)/\lo<=g/\Blk w g tHW #[Ah,Au,Av]/\StH lo R C F w Ah/\zBf w Au R/\zBf w Av R
theorem StH.below{lo R C:Nat}{F:Nat->Nat->Int}{w w':World}{v:Value}(h:StH lo R C F w v)(hb:Below w.heap.size w w'):StH lo R C F w' v:=by
 obtain⟨bs,h1,h2⟩:=h;exact⟨bs,h1.below hb,h2⟩
theorem zJc(lo R C:Nat)(F:Nat->Nat->Int):qK (StM lo R C F):=fun _ _ _ x ⟨o,c,h1,h2⟩=>⟨o,c,h1,h2.below x⟩
theorem zJb(lo R C:Nat)(F:Nat->Nat->Int):qK (StH lo R C F):=fun _ _ _ x h=>h.below x
theorem zJV(R:Nat):qK (zP8 R):=fun _ _ _ x h=>zBf.below h x
theorem zJa(lo R C:Nat)(F:Nat->Nat->Int):qK (StB lo R C F):=fun _ _ _ x ⟨a,b,c,h1,h2,h3,h4⟩=>⟨a,b,c,h1,h2.below x,h3.below x,h4.below x⟩
theorem zFW(lo R C:Nat)(F:Nat->Nat->Int):qK (StP lo R C F):=fun _ _ _ x ⟨g,a,b,c,h1,h0,h5,h2,h3,h4⟩=>⟨g,a,b,c,h1,h0,h5.below x,h2.below x,h3.below x,h4.below x⟩
theorem zGD(w:World)(n:Nat)(hn:n<=1000000):zBf (w.alloc (.cells (madeCells (Value.slice none 0 0).cells (n*1)) tR)) (.slice (some ⟨w.heap.size,0,none⟩) n n) n:=by
 refine⟨_,_,_,rfl,xgf _,by omega,Blk.new _ _ _,fun i hi=>?_⟩;unfold madeCells;rw[Array.getElem?_eq_getElem (by simp;omega)];simp[Value.cells,Nat.mod_one]
theorem zG1(w:World)(n:Nat)(hn:n<=1000000):zBf (w.alloc (.cells (madeCells #[Value.slice none 0 0] n) tR)) (.slice (some ⟨w.heap.size,0,none⟩) n n) n:=by
 have h:=zGD w n hn;rw[Nat.mul_one]at h;exact h
theorem zOR{B:Nat}(hB:BSm B)(v kv:Value)(M:List (List Int))(R C lo:Nat)(w:World)(h:zIY w v R C M)(hF:jT R C M)(hk:zH w kv 1)(hR:R<=1000000)(hC:C<=1000000)(hok:okF B R C (ent M))(s1:Sm 1)(hlo:lo<=w.heap.size):
  Calls Tryz.prog 217 #[v,kv] w fun e w'=>∃v,e= .returned v/\StM lo R C (ent M) w' v/\Below w.heap.size w w':=by
 refine(zJg v kv M R C 1 w h hF hk hR hC ?_ s1).mono fun e w' hr=>?_
 ·intro r hr z hz
  obtain⟨i,hi,ei⟩:=List.getElem_of_mem hr;obtain⟨j,hj,ej⟩:=List.getElem_of_mem hz;have e1:M[i]?=some r:=by rw[xga hi,ei]
  have e2:r[j]?=some z:=by rw[xga hj,ej]
  have e3:=hF.2 r hr;have:=hok i (by rw[<-hF.1];exact hi) j oM;rw[zBE e1 e2]at this;exact hB.sm _ this
 ·have hq:zY R C (fun i j=>1*ent M i j)=zY R C (ent M):=qM fun i _ j _=>Int.one_mul _
  rw[hq]at hr;obtain⟨v,rfl,⟨o,c,bs,h1,h2,h3⟩,hb⟩:=zBB.within hr;exact⟨v,rfl,⟨o,c,h1,bs,h2,fun b hb=>Nat.le_trans hlo (h3 b hb).1⟩,hb⟩
theorem zLq{B:Nat}(hB:BSm B)(v:Value)(M:List (List Int))(R C:Nat)(w:World)(h:zIY w v R C M)(hF:jT R C M)(hR:R<=1000000)(hC:C<=1000000)(hok:okF B R C (ent M))(s1:Sm 1):
  Calls Tryz.prog 150 #[v] w fun e w'=>∃v,e= .returned v/\StP w.heap.size R C (ent M) w' v/\Below w.heap.size w w':=by
 have h0:=h;obtain⟨A,rfl,h⟩:=h;obtain⟨ao,n,cap,rfl,e2,e3,e4,-⟩:=id h;obtain rfl:R=n:=by rw[<-e2,hF.1]
 have HF:=xgv hF;have HOK:=xgv hok;have H0:=xgv h0;have S1:=xgv s1;clear hok h0 hF e2 s1;go_enter Tryz.func150,Tryz.ntmps150;go_upto_region 1 with(fail)
 refine zB ?_;intro W0 hW0;obtain⟨hB0,bx1,hs0⟩:=zK hW0;obtain⟨c1,c2,c3,c4,c5,c6⟩:=bx1.three;have hl1:=zJc W0.heap.size R C (ent M);have hl2:=zJb W0.heap.size R C (ent M);have hl3:=zJV R;have hl4:=zJa W0.heap.size R C (ent M);have hl5:=zFW W0.heap.size R C (ent M);have hmk:=fun W=>mkR (R:Int) R rfl oM W
 clear hW0;refine zC 12 rfl (RV W0 _ [E 0 3 (.agg #[.int .i64 R,.int .i64 C,.slice ao R cap]),EI 1 4 (1),⟨2,5,StM W0.heap.size R C (ent M)⟩,⟨3,6,StH W0.heap.size R C (ent M)⟩,VP 4 7 w.heap.size 0,VN 5 8 R,⟨6,9,zP8 R⟩,VP 7 10 w.heap.size 0,VN 8 11 R,⟨9,12,zP8 R⟩,⟨10,13,StB W0.heap.size R C (ent M)⟩,⟨11,14,StP W0.heap.size R C (ent M)⟩]) kR RV.start (RV.fin kR ?fin1) ?steps1
 case steps1=>
  (repeat' constructor)<;>(intro L T wS hL hd hcl hI K hK;try refine zA rfl ?_)
  ·have zt:=hI.k 1 rfl kR
   have cc0:=hI.cell c1;have cc1:=hI.cell c2;have cc2:=hI.cell c3;exact xgu
  ·go_simp
   refine(zBK 1 _ oM oM).mono ?_;exact xgo
  ·have zt0:=hI.e mm0 (hd 0)
   obtain⟨v1,zt1,h1⟩:=hI.vi mm1 (hd 1);go_simp;refine(zOR hB _ _ M R C W0.heap.size _ ((H0.out.below hB0).below hI.bel) HF.out h1 hR hC HOK.out S1.out hI.bel.size).mono ?_;rintro e wa ⟨v,rfl,hv,hba⟩;exact hK _ _ ((hI.world hba).y mm2 hv)
  ·obtain⟨v2,zt2,h2⟩:=hI.v mm2 (hd 2)
   obtain⟨o,c,rfl,h2'⟩:StM W0.heap.size R C (ent M) wS v2:=h2;go_simp;exact hK _ _ (hI.y mm3 h2')
  ·exact xgs (hI.k 1 rfl kR)
  ·have zt4:=hI.e mm4 (hd 4)
   have cc0:=hI.cell c1;exact xgu
  ·obtain⟨_,zt5,rfl⟩:=hI.v mm5 (hd 5)
   go_simp;exact hK _ _ ((hI.world ((Below.refl _ _).alloc (xgf _) _)).y mm6 (by first|exact zGD wS R hR|exact zG1 wS R hR))
  ·exact xgs (hI.k 1 rfl kR)
  ·have zt7:=hI.e mm7 (hd 7)
   have cc0:=hI.cell c1;exact xgu
  ·obtain⟨_,zt8,rfl⟩:=hI.v mm8 (hd 8)
   go_simp;exact hK _ _ ((hI.world ((Below.refl _ _).alloc (xgf _) _)).y mm9 (by first|exact zGD wS R hR|exact zG1 wS R hR))
  ·obtain⟨v3,zt3,h3'⟩:=hI.v mm3 (hd 3)
   obtain⟨v6,zt6,h6'⟩:=hI.v mm6 (hd 6);obtain⟨v9,zt9,h9'⟩:=hI.v mm9 (hd 9);have h3q:StH W0.heap.size R C (ent M) wS v3:=h3';have h6q:zBf wS v6 R:=h6';have h9q:zBf wS v9 R:=h9';obtain⟨bs3,h3w,h3z⟩:=id h3q;obtain⟨o3,c3,rfl⟩:=h3w.shape;obtain⟨g6,c6,_,rfl,-⟩:=id h6q;obtain⟨g9,c9,_,rfl,-⟩:=id h9q;go_simp;exact hK _ _ (hI.y zAB ⟨_,_,_,rfl,h3q,h6q,h9q⟩)
  ·obtain⟨v10,zt10,h10⟩:=hI.v zAB (hd 10)
   obtain⟨Ah,Au,Av,rfl,h3q,h6q,h9q⟩:StB W0.heap.size R C (ent M) wS v10:=h10;have hba:=(Below.refl wS.heap.size wS).alloc (xgf _) (.cells #[Ah,Au,Av] tHW);obtain⟨bs3,h3w,h3z⟩:=id h3q;obtain⟨o3,c3,rfl⟩:=h3w.shape;obtain⟨g6,c6,_,rfl,-⟩:=id h6q;obtain⟨g9,c9,_,rfl,-⟩:=id h9q;go_simp;exact hK _ _ ((hI.world hba).y zAG ⟨_,_,_,_,rfl,hI.bel.size,Blk.new _ _ _,h3q.below hba,h6q.below hba,h9q.below hba⟩)
 intro w2 hbw2 T hT;simp only[Fin,E,EI,VP,VSl,VN,xgg,xgh,xgi,xgj]at hT;obtain⟨va1,ha1,va2,ha2,va3,ha3,va6,ha6,va9,ha9,va10,ha10,va11,ha11,rfl⟩:=hT;simp only[xgl,xgk];obtain⟨g,Ah,Au,Av,rfl,g1,g2,g3,g4,g5⟩:StP W0.heap.size R C (ent M) w2 va11:=ha11;obtain⟨bs,k1,k2⟩:=g3;have hsw:=hB0.size;clear c1 c2 c3 c4 c5 c6 hmk ha10 ha9 ha6 ha3 ha2;go_wp2;go_ret;exact⟨_,rfl,⟨g,Ah,Au,Av,rfl,by omega,g2,⟨bs,k1,fun b hb=>by have:=k2 b hb;omega⟩,g4,g5⟩,nx hB0 hbw2⟩
structure zA2(w:World)(base:Nat)(A:Value)(C:Nat)(bs:List Nat)(M:List (List Int)):Prop where
 own:w.ownsRow base tR 1 A bs.length (yC C bs)
 len:M.length=bs.length
 row:∀(k:Nat) (b:Nat) (r:List Int),bs[k]?=some b->M[k]?=some r->r.length=C/\qC w b r
 nodup:bs.Nodup
 cb:C<=1099511627776
theorem zA2.rows0{w:World}{base:Nat}{A:Value}{C:Nat}{bs:List Nat}{M:List (List Int)}(h:zA2 w base A C bs M):zT w 0 A C bs M:=by
 refine⟨⟨h.own.1,?_⟩,h.len,fun k b r h1 h2=>⟨Nat.zero_le _,h.row k b r h1 h2⟩,h.nodup,h.cb⟩;rcases h.own.2 with h3|⟨g,cap,cur,rfl,k1,k2⟩
 ·exact .inl h3
 ·exact .inr ⟨g,cap,cur,rfl,Nat.zero_le _,k2⟩
theorem zA2.below{w w':World}{base:Nat}{A:Value}{C:Nat}{bs:List Nat}{M:List (List Int)}(h:zA2 w base A C bs M)(hb:Below w.heap.size w w'):zA2 w' base A C bs M:=
 ⟨h.own.kept (row:=none) ⟨hb.os,hb.tape,hb.output,hb.size,fun k hk _=>hb.block k hk⟩ (by cases hv:A.ownBlock<;>simp),h.len,fun k b r h1 h2=>by
  obtain⟨e2,e3⟩:=h.row k b r h1 h2;exact⟨e2,e3.below hb⟩,h.nodup,h.cb⟩
theorem zA2.nil(w:World)(base C:Nat)(hC:C<=1099511627776):zA2 w base (.slice none 0 0) C [] []:=⟨⟨rfl,.inl ⟨rfl,rfl⟩⟩,rfl,fun k b r h1=>by simp at h1,by simp,hC⟩
theorem zA2.ownb{w:World}{base:Nat}{A:Value}{C:Nat}{bs:List Nat}{M:List (List Int)}(h:zA2 w base A C bs M):∀g,A.ownBlock=some g->base<=g/\g<w.heap.size:=World.ownsRow.lt h.own
theorem zA2.mono{w:World}{base a:Nat}{A:Value}{C:Nat}{bs:List Nat}{M:List (List Int)}(h:zA2 w base A C bs M)(ha:a<=base):zA2 w a A C bs M:=by
 refine⟨⟨h.own.1,?_⟩,h.len,h.row,h.nodup,h.cb⟩;rcases h.own.2 with h3|⟨g,cap,cur,rfl,k1,k2⟩
 ·exact .inl h3
 ·exact .inr ⟨g,cap,cur,rfl,by omega,k2⟩
theorem zA2.off{w w':World}{base:Nat}{A:Value}{C:Nat}{bs:List Nat}{M:List (List Int)}{g:Nat}{T:TypeId}{cs:Array Value}(h:zA2 w base A C bs M)(hg:Blk w g T cs)(hT:¬ T=tI)(hgb:g<base)(ho:∀k,k≠g->w'.heap[k]?=w.heap[k]?)(hx:yI w w'):zA2 w' base A C bs M:=by
 refine⟨⟨h.own.1,?_⟩,h.len,fun k b r h1 h2=>?_,h.nodup,h.cb⟩
 ·rcases h.own.2 with h3|⟨g',cap,cur,rfl,k1,k2,k3⟩
  ·exact .inl h3
  ·exact .inr ⟨g',cap,cur,rfl,k1,(ho g' oM).trans k2,k3⟩
 ·obtain⟨e2,e3⟩:=h.row k b r h1 h2
  exact⟨e2,e3.old (ho b (fun e=>zGg hg e3 hT e.symm)) hx⟩
theorem zA2.shape{w:World}{base:Nat}{A:Value}{C:Nat}{bs:List Nat}{M:List (List Int)}(h:zA2 w base A C bs M):∃o n c,A= .slice o n c:=by
 rcases h.own.2 with⟨rfl,-⟩|⟨g,cap,cur,rfl,-⟩
 ·exact⟨_,_,_,rfl⟩
 ·exact⟨_,_,_,rfl⟩
theorem zQ7{w:World}{ops:Array Oper}{rest:List Oper}{o:Oper}{a:Act}{Q:Exit->Act->World->Prop}(hgd:o.guard=none)(s x:Operand)
  (ho:o.op= .call {callee:=.builtin .append,args:=#[s,x],argTypes:=#[26,26]})
  (base:Nat) (v:Value) (C:Nat) (bs:List Nat) (M:List (List Int)) (hs:a.eval s=v) (hown:zA2 w base v C bs M) (b c nb:Nat) (r:List Int) (hx:a.eval x= .slice (some ⟨b,0,none⟩) 1 c)
  (hb:Blk w b tR #[.slice (some ⟨nb,0,none⟩) C C]) (hr:qC w nb r) (hrl:r.length=C) (hfr:∀g∈bs,g≠nb)
  (hlen:bs.length+1<=1099511627776) (hbase:base<=w.heap.size)
  (h:∀v' w',zA2 w' base v' C (bs++ [nb]) (M++ [r])->w.grownBy w' v.ownBlock->yI w w'->wpList Tryz.prog ops Q rest (a.put o.dst v') w'):wpList Tryz.prog ops Q (o::rest) a w:=by
 obtain⟨i0,hi,hz0,hz1,hz2⟩:=info_parts Tryz.infoR;have c0:=hb.cell 0;refine wpList_append_own w hgd s x 26 ho base tR i0 _ 1 24 Tryz.underlying26 hi hz0 hz1 hz2 rfl oM v bs.length _ hs hown.own ⟨b,0,none⟩ 1 c [.slice (some ⟨nb,0,none⟩) C C] hx rfl ?_ ?_ (by simp[maxLen];omega) oM hbase ?_
 ·intro j u hj
  rw[Addr.add_lit];match j with
  |0=>simp at hj;subst hj;exact c0
  |j+1=>simp at hj
 ·intro u hu
  simp at hu;subst hu;rfl
 ·intro v' w' k1 k2 _
  have hx:=zAO hown.own dE k2;have hkeep:∀g q,qC w g q->qC w' g q:=fun g q hq=>hq.old (k2.block g hq.lt (zDA hown.own hq)) hx
  refine h v' w' ⟨?_,by simp[hown.len],?_,?_,hown.cb⟩ k2 hx
  ·have:yC C (bs++ [nb])=yC C bs++ [.slice (some ⟨nb,0,none⟩) C C]:=by simp[yC]
   rw[this];simpa using k1
  ·intro k g q hg hq
   rcases Nat.lt_or_ge k bs.length with hlt|hge
   ·rw[List.getElem?_append_left hlt]at hg
    rw[List.getElem?_append_left (by rw[hown.len];exact hlt)]at hq;obtain⟨f2,f3⟩:=hown.row k g q hg hq;exact⟨f2,hkeep _ _ f3⟩
   ·rw[List.getElem?_append_right hge]at hg
    rw[List.getElem?_append_right (by rw[hown.len];exact hge),hown.len]at hq;have hk0:k-bs.length=0:=by
     have:=(xge.1 hg).1;simp at this;omega
    rw[hk0]at hg hq;simp at hg hq;subst hg;subst hq;exact⟨hrl,hkeep _ _ hr⟩
  ·rw[List.nodup_append]
   refine⟨hown.nodup,by simp,fun x hx y hy=>?_⟩;simp at hy;subst hy;exact hfr x hx
theorem zBd.cell{w:World}{base:Nat}{v:Value}{xs:List Nat}(h:zBd w base v xs){k x:Nat}(hk:xs[k]?=some x):∃g cap,v= .slice (some ⟨g,0,none⟩) xs.length cap/\g<w.heap.size/\w.cell? ⟨g,k,none⟩=some (.int .i64 x):=by
 rcases h.2.2 with⟨rfl,h0⟩|⟨g,cap,cur,rfl,hg,hh,hn,hc,hs,ht⟩
 ·rw[List.eq_nil_of_length_eq_zero h0]at hk
  simp at hk
 ·refine⟨g,cap,rfl,(Array.getElem?_eq_some_iff.1 hh).1,?_⟩
  rw[cell_of_row w g k cur tNn _ hh];have hk':(xs.map fun n=>Value.int .i64 (n:Nat))[k]?=some (.int .i64 (x:Nat)):=by simp[hk]
  rw[<-ht,List.getElem?_take]at hk';split at hk'
  ·simpa using hk'
  ·cases hk'
abbrev SlR(b C:Nat):World->Value->Prop:=fun w v=>∃g,v= .slice (some ⟨g,0,none⟩) 1 1/\Blk w g tR #[.slice (some ⟨b,0,none⟩) C C]
theorem zJZ(b C:Nat):qK (SlR b C):=fun _ _ _ x ⟨g,h1,h2⟩=>⟨g,h1,h2.below x⟩
theorem zH8(Ah ov:Value)(n Cs nb ob base:Nat)(bss os:List Nat)(F:Nat->Nat->Int)(w:World)(hw:Wri w Ah n Cs bss F)(hnb:Blk w nb 3 #[.int .i64 n])(hob:Blk w ob 52 #[ov])(hov:zBd w base ov os)
  (hos:∀x∈os,x<n) (hnd:os.Nodup) (hn:n<=1000000) (hCs:Cs<=1000000) (hlen:os.length<=n):
  Calls Tryz.prog 154 #[Ah,.int .i64 Cs,.pointer (some ⟨nb,0,none⟩),.pointer (some ⟨ob,0,none⟩)] w fun e w'=>∃v bs',e= .returned (.agg #[.int .i64 n,.int .i64 Cs,v])∧
   zA2 w' w.heap.size v Cs bs' (os.map fun i=>zM Cs (F i))/\(∀b,b∈bs'->b∈bss)/\Below w.heap.size w w':=by
 have n0:=hnb.cell 0;have o0:=hob.cell 0;obtain⟨so,sn,scap,rfl,s1,-⟩:=id (zT.rows hw);have e2:n=sn:=by rw[<-s1];simp[zY]
 subst e2;obtain⟨ao,ocap,rfl,-,-,-⟩:=hov.at_;have lnb:=hnb.lt;have lob:=hob.lt;have HW:=xgv hw;have HOV:=xgv hov;have HOS:=xgv hos;have HND:=xgv hnd;clear s1 hw hov hos hnd;go_enter Tryz.func154,Tryz.ntmps154;go_upto_region 2 with(fail)
 refine zB ?_;intro W0 hW0;obtain⟨hB0,T6,T7,hs0⟩:=qH hW0;have o0:=zI o0 hB0;clear hW0 n0;go_wp2;go_loopw [15] (fun iv wr=>∃(k:Nat) (v:Value),iv= .int .i64 k/\k<=os.length/\zA2 wr (w.heap.size+2) v Cs ((os.take k).map fun i=>bss.getD i 0) ((os.take k).map fun i=>zM Cs (F i))∧
  Blk wr w.heap.size 28 #[.int .i64 0,.int .i64 0,.slice none 0 0]/\Blk wr (w.heap.size+1) 28 #[.int .i64 n,.int .i64 Cs,v]/\Below w.heap.size w wr) (fun iv _=>os.length-(intOf iv).toNat)
 case atStart=>exact⟨0,_,rfl,by omega,zA2.nil _ _ _ oM,T6,T7,hB0⟩
 case round=>
  clear T6 T7 hB0 hs0;obtain⟨k,uv,rfl,hk,hx,T6,T7,hb⟩:=hrel;obtain⟨vo,vn,vc,rfl⟩:=hx.shape;have l7:=T7.lt;by_cases hlt:k<os.length
  ·obtain⟨i,hi⟩:∃i,os[k]?=some i:=⟨_,xga hlt⟩
   have hin:i<n:=HOS.out i (xgd hi);obtain⟨og,oc,eo,lo,q0⟩:=(HOV.out.below hb).cell hi;injection eo with eo1 eo2 eo3
   subst eo1;obtain⟨g,bi,eg,lg,hbi,-,o1,-⟩:=zT.at_ (HW.out.below hb) (i:=i) (by rw[(HW.out.below hb).len];exact hin);subst eg;have hrow:=(HW.out.below hb).rowAt hin hbi;obtain⟨-,-,f3,-,-,-⟩:=T7.three;have htk:∀{α:Type} (f:Nat->α),(os.take (k+1)).map f=(os.take k).map f++ [f i]:=fun f=>by
    rw[List.take_add_one,List.map_append,hi];rfl
   have HTB:=xgv (htk fun i=>bss.getD i 0);have HTM:=xgv (htk fun i=>zM Cs (F i));have hgd:bss.getD i 0=bi:=by rw[xgb,hbi];rfl
   have hne:∀b∈(os.take k).map (fun i=>bss.getD i 0),b≠bi:=by
    intro b hb' hbe;subst hbe;obtain⟨j,hj,he⟩:=List.mem_map.1 hb';have hjn:j<bss.length:=by rw[HW.out.len];exact HOS.out j (List.mem_of_mem_take hj)
    have hil:i<bss.length:=by rw[HW.out.len];exact hin
    have e1:bss.getD j 0=bss[j]:=by rw[xgb,xga hjn];rfl
    have e2:bss[i]=b:=(xge.1 hbi).2;have hji:j=i:=by
     have:=(List.getElem_inj (h₀:=hjn) (h₁:=hil) (zT.nodup HW.out)).1 (by rw[<-e1,e2];exact he);exact this
    subst hji;obtain⟨t,ht1,ht2⟩:=List.getElem_of_mem hj;rw[List.getElem_take]at ht2;have ht3:t<k:=by simp at ht1;omega
    have:=(List.getElem_inj (h₀:=(by omega:t<os.length)) (h₁:=hlt) HND.out).1 (by rw[ht2];exact(xge.1 hi).2.symm);omega
   have hlr:=zJZ bi Cs;have hblen:((os.take k).map fun i=>bss.getD i 0).length=k:=by simp;omega
   have HNE:=xgv hne;have HGD:=xgv hgd;clear htk hne hgd hi hbi;go_upto_region 5 with(fail)
   refine zC 7 rfl (RV wr _ [VP 0 19 (w.heap.size+1) 2,E 1 20 (.slice vo vn vc),VSl 2 21 g n scap,VN 3 22 i,VP 4 23 g i,VSl 5 24 bi Cs Cs,⟨6,25,SlR bi Cs⟩]) kR RV.start (RV.fin kR ?fin1) ?steps1
   case steps1=>
    (repeat' constructor)<;>(intro L T wS hL hd hcl hI K hK;try refine zA rfl ?_)
    ·exact xgs (hI.k 7 rfl kR)
    ·have zt0:=hI.e mm0 (hd 0)
     have cc0:=hI.cell f3;exact xgu
    ·exact xgs (hI.k 0 rfl kR)
    ·exact xgs (hI.k 9 rfl kR)
    ·exact xgt (hI.e mm2 (hd 2)) (hI.e mm3 (hd 3))
    ·have zt4:=hI.e mm4 (hd 4)
     have cc0:=hI.cell o1;exact xgu
    ·have zt5:=hI.e mm5 (hd 5)
     go_simp;exact hK _ _ ((hI.world ((Below.refl _ _).alloc (xgf _) _)).y mm6 ⟨_,rfl,Blk.new _ _ _⟩)
   intro w5 hbw5 T hT;simp only[Fin,E,EI,VP,VSl,VN,xgg,xgh,xgi,xgj]at hT;obtain⟨vb6,hb6,rfl⟩:=hT;simp only[xgl,xgk];obtain⟨gs,rfl,hsl⟩:SlR bi Cs w5 vb6:=hb6;have hx5:=hx.below hbw5;have T75:=T7.below hbw5;have T65:=T6.below hbw5;have hr5:=hrow.below hbw5;have hb5:=nx hb hbw5;have l75:=T75.lt;clear o1 f3 q0;go_wp2_with (at_builtin;refine zQ7 rfl _ _ rfl (w.heap.size+2) (.slice vo vn vc) Cs _ _ rfl hx5 gs 1 bi _ rfl hsl hr5 (zD _ _) HNE.out (by rw[hblen];omega) oM ?_;intro v' w' hown hgr hlx;obtain⟨po,pn,pc',rfl⟩:=hown.shape;have T7n:=(hgr.block _ l75 (fun e=>by have:=(hx5.ownb _ e.symm).1;omega)).trans T75;have T6n:=(hgr.block _ oM (fun e=>by have:=(hx5.ownb _ e.symm).1;omega)).trans T65;obtain⟨f1,f2,f3,f4,f5,f6⟩:=Blk.three (t:=28) T7n)
   go_roundw
   case rel=>
    have T7n:Blk w' (w.heap.size+1) 28 #[.int .i64 n,.int .i64 Cs,.slice vo vn vc]:=T7n;have hX:zA2 (w'.setCell ⟨w.heap.size+1,2,none⟩ (.slice po pn pc')) (w.heap.size+2) (.slice po pn pc') Cs ((os.take (k+1)).map fun i=>bss.getD i 0) ((os.take (k+1)).map fun i=>zM Cs (F i)):=by
     rw[HTB.out,HTM.out,HGD.out];exact hown.off T7n dE oM (fun b hb=>zU _ _ _ b _ hb) (T7n.lext dE _ _)
    refine⟨k+1,by simp,by omega,.slice po pn pc',by simpa using hX,?_,?_,?_⟩
    ·exact(zU _ _ _ _ _ oM).trans T6n
    ·have:=T7n.set_ 2 (.slice po pn pc')
     simpa using this
    ·exact zO (hb5.grown hgr oM (fun g hg=>by have:=(hx5.ownb g hg).1;omega)) oM _ _
   case measure=>simp[intOf];omega
  ·obtain rfl:k=os.length:=by omega
   obtain⟨f1,f2,f3,f4,f5,f6⟩:=T7.three;obtain⟨e1,e2,e3,e4,e5,e6⟩:=T6.three;have l6:=T6.lt;rw[List.take_length]at hx;go_wp2;refine yE (r:=w.heap.size) rfl rfl rfl (T6.put3 _ _ _) ⟨.slice vo vn vc,_,rfl,(hx.off T6 dE oM (fun b hbn=>yY _ _ b _ _ _ hbn) (T6.lext3 dE _ _ _)).mono oM,?_,?_⟩
   ·intro b hb'
    obtain⟨j,hj,rfl⟩:=List.mem_map.1 hb';have hjn:j<bss.length:=by rw[HW.out.len];exact HOS.out j hj
    rw[xgb,xga hjn];exact List.getElem_mem hjn
   ·exact zO (zO (zO hb oM _ _) oM _ _) oM _ _
structure AS where
 op:Nat
 slot:Nat
 m:MS
structure RX(W:World)(T0:Array Value)(vs:List VS)(ms:List MS)(al_:List AS)(L:Array Bool)(T:Array Value)(w:World):Prop where
 g:RG W T0 vs ms L T w
 wf:∀a∈al_,a.m∈ms/\∃s∈vs,s.op=a.op/\s.slot=a.slot
 al:∀a∈al_,L[a.op]?=some true->L[a.m.op]?=some true/\∃o c,T[a.m.slot]?=some (.agg #[.int .i64 a.m.R,.int .i64 a.m.C,.slice o a.m.R c])/\T[a.slot]?=some (.slice o a.m.R c)
section
variable {W:World} {T0:Array Value} {vs:List VS} {ms:List MS} {al_:List AS} {L:Array Bool} {T:Array Value} {w w':World}
theorem RX.start(hwf:zJI T0.size vs ms=true)(hv:∀s∈vs,qK s.P)(ha:∀a∈al_,a.m∈ms/\∃s∈vs,s.op=a.op/\s.slot=a.slot){n:Nat}:RX W T0 vs ms al_ (Array.replicate n false) T0 W.drew:=
 ⟨RG.start hwf hv,ha,fun a _ h=>by
  rw[Array.getElem?_replicate]at h;split at h<;>simp at h⟩
theorem RX.world(h:RX W T0 vs ms al_ L T w)(hb:Below w.heap.size w w'):RX W T0 vs ms al_ L T w':=⟨h.g.world hb,h.wf,h.al⟩
theorem RX.value{k:Nat}{v:Value}(h:RX W T0 vs ms al_ L T w)(s:VS)(hs:s∈vs)(hk:s.op=k)(hP:s.P w v)(hn:∀a∈al_,a.op≠k):RX W T0 vs ms al_ (L.setIfInBounds k true) (T.setIfInBounds s.slot v) w:=by
 obtain⟨p1,p2,p3,p4,p5,p6,p7⟩:=h.g.parts;refine⟨h.g.value s hs hk hP,h.wf,fun a ha hl=>?_⟩;subst hk;obtain⟨e1,t,ht,e2,e3⟩:=h.wf a ha;have hl':L[a.op]?=some true:=zL hl (fun e=>hn a ha e.symm);obtain⟨q1,o,c,q2,q3⟩:=h.al a ha hl';have n1:s.slot≠a.m.slot:=(p5 s hs _ e1).1;have n2:s.slot≠a.slot:=by
  rw[<-e3];intro e;have:=zN p1 hs ht e;subst this;exact hn a ha e2.symm
 refine⟨?_,o,c,by rw[xgc n1];exact q2,by rw[xgc n2];exact q3⟩;rw[xgc (p5 s hs _ e1).2];exact q1
theorem RX.y{k:Nat}{v:Value}(h:RX W T0 vs ms al_ L T w){s:VS}(hs:s∈vs)(hP:s.P w v)(hn:∀a∈al_,a.op≠k)(hk:s.op=k:=by rfl):RX W T0 vs ms al_ (L.setIfInBounds k true) (T.setIfInBounds s.slot v) w:=h.value s hs hk hP hn
theorem RX.alias{v:Value}(h:RX W T0 vs ms al_ L T w)(a:AS)(ha:a∈al_)(s:VS)(hs:s∈vs)(hso:s.op=a.op)(hss:s.slot=a.slot)(hP:s.P w v)(hm:L[a.m.op]?=some true)(hdup:∀b∈al_,b.op=a.op->b=a)
  {o:Option Addr} {c:Nat} (h1:T[a.m.slot]?=some (.agg #[.int .i64 a.m.R,.int .i64 a.m.C,.slice o a.m.R c])) (h2:v= .slice o a.m.R c):RX W T0 vs ms al_ (L.setIfInBounds a.op true) (T.setIfInBounds s.slot v) w:=by
 obtain⟨p1,p2,p3,p4,p5,p6,p7⟩:=h.g.parts;refine⟨h.g.value s hs hso hP,h.wf,fun b hb hl=>?_⟩;obtain⟨e1,t,ht,e2,e3⟩:=h.wf b hb;have nm:s.slot≠b.m.slot:=(p5 s hs _ e1).1;have no:s.op≠b.m.op:=(p5 s hs _ e1).2;by_cases hba:b=a
 ·subst hba
  refine⟨by rw[xgc (by rw[<-hso];exact no)];exact hm,o,c,by rw[xgc nm];exact h1,?_⟩;rw[<-hss,Array.getElem?_setIfInBounds_self_of_lt (by rw[h.g.size];exact p6 _ hs),h2]
 ·have hne:b.op≠a.op:=fun e=>hba (hdup b hb e)
  obtain⟨q1,o',c',q2,q3⟩:=h.al b hb (zL hl (Ne.symm hne));have n2:s.slot≠b.slot:=by
   rw[<-e3];intro e;have:=zN p1 hs ht e;subst this;exact hne (e2.symm.trans hso)
  exact⟨by rw[xgc (by rw[<-hso];exact no)];exact q1,o',c',by rw[xgc nm];exact q2,by rw[xgc n2];exact q3⟩
theorem RX.mat{ops:Array Oper}{k:Nat}{v:Value}(h:RX W T0 vs ms al_ L T w)(hcl:zAQ ops L)(hL:L[k]?=some false)(m:MS)(hm:m∈ms)(hk:m.op=k)(hb:Below w.heap.size w w')(hw:zDs m.R m.C m.F w.heap.size w'.heap.size w' v)
  (hlt:(ms.all fun m'=>!decide (k<m'.op)||zD6 ops 9 m'.op k)=true):RX W T0 vs ms al_ (L.setIfInBounds k true) (T.setIfInBounds m.slot v) w':=by
 obtain⟨p1,p2,p3,p4,p5,p6,p7⟩:=h.g.parts;refine⟨h.g.mat hcl hL m hm hk hb hw hlt,h.wf,fun a ha hl=>?_⟩;subst hk;obtain⟨e1,t,ht,e2,e3⟩:=h.wf a ha;have no:m.op≠a.op:=by rw[<-e2];exact fun e=>(p5 t ht m hm).2 e.symm
 have ns:m.slot≠a.slot:=by rw[<-e3];exact fun e=>(p5 t ht m hm).1 e.symm
 obtain⟨q1,o,c,q2,q3⟩:=h.al a ha (zL hl no);have hne:m≠a.m:=fun e=>by
  rw[<-e,hL]at q1;cases q1
 have n1:m.slot≠a.m.slot:=fun e=>hne (zN p3 hm e1 e)
 have n2:m.op≠a.m.op:=fun e=>hne (zN p4 hm e1 e)
 exact⟨by rw[xgc n2];exact q1,o,c,by rw[xgc n1];exact q2,by rw[xgc ns];exact q3⟩
end
def RXS(W:World)(T0:Array Value)(vs:List VS)(ms:List MS)(al_:List AS)(q:Nat)(st:Array Value->World->World)(L:Array Bool)(T:Array Value)(w:World):Prop:=
 ∃w0,RX W T0 vs ms al_ L T w0/\(L[q]?≠some true->w=w0)/\(L[q]?=some true->w=st T w0)
section
variable {W:World} {T0:Array Value} {vs:List VS} {ms:List MS} {al_:List AS} {L:Array Bool} {T:Array Value} {w w':World} {q:Nat} {st:Array Value->World->World}
theorem RXS.start{n:Nat}(h:RX W T0 vs ms al_ (Array.replicate n false) T0 W.drew):RXS W T0 vs ms al_ q st (Array.replicate n false) T0 W.drew:=
 ⟨_,h,fun _=>rfl,fun hh=>by
  rw[Array.getElem?_replicate]at hh;split at hh<;>simp at hh⟩
theorem RX.mark(h:RX W T0 vs ms al_ L T w)(hq:∀s∈vs,s.op≠q)(hm:∀m∈ms,m.op≠q):RX W T0 vs ms al_ (L.setIfInBounds q true) T w:=by
 obtain⟨bot,top,g1,g2⟩:=h.g.gh;have um:∀m∈ms,(L.setIfInBounds q true)[m.op]?=some true->L[m.op]?=some true:=fun m hm' hl=>zL hl (Ne.symm (hm m hm'))
 refine⟨⟨h.g.wf,h.g.lv,h.g.size,h.g.keep,h.g.bel,fun s hs hl=>h.g.val s hs (zL hl (Ne.symm (hq s hs))),bot,top,fun m hm' hl=>g1 m hm' (um m hm' hl),fun m hm' m' hm2 hlt l1 l2=>g2 m hm' m' hm2 hlt (um m hm' l1) (um m' hm2 l2)⟩,h.wf,fun a ha hl=>?_⟩;obtain⟨e1,t,ht,e2,e3⟩:=h.wf a ha;obtain⟨q1,q2⟩:=h.al a ha (zL hl (by rw[<-e2];exact Ne.symm (hq t ht)));exact⟨by rw[xgc (Ne.symm (hm _ e1))];exact q1,q2⟩
theorem zF.liftX{P:Program}{ops:Array Oper}{Q:Exit->Act->World->Prop}{ds:List Deferred}{i:Nat}{o:Oper}(hq:zD6 ops 5 q i=true)(hne:i≠q)
  (h:zF P ops Q ds (RX W T0 vs ms al_) i o):zF P ops Q ds (RXS W T0 vs ms al_ q st) i o:=by
 intro L T w hL hd hcl hI K hK;obtain⟨w0,h0,h1,h2⟩:=hI;have hLq:L[q]?≠some true:=fun hh=>by
  have:=zAg hcl hq hh;rw[hL]at this;cases this
 obtain rfl:=h1 hLq;exact h L T w hL @hd hcl h0 K (fun T' w' h'=>hK T' w' ⟨w',h',fun _=>rfl,fun hh=>absurd (zL hh hne) hLq⟩)
theorem RXS.step{k:Nat}{T':Array Value}(h:RXS W T0 vs ms al_ q st L T w)(hx:∀w0,RX W T0 vs ms al_ L T w0->RX W T0 vs ms al_ (L.setIfInBounds k true) T' w0)(hne:k≠q)(hst:∀w,st T' w=st T w):RXS W T0 vs ms al_ q st (L.setIfInBounds k true) T' w:=by
 obtain⟨w0,h0,h1,h2⟩:=h;exact⟨w0,hx w0 h0,fun hn=>h1 fun hh=>hn (yG hh),fun hh=>(h2 (zL hh hne)).trans (hst w0).symm⟩
theorem RXS.store(h:RX W T0 vs ms al_ L T w)(hL:L[q]?=some false)(hq:∀s∈vs,s.op≠q)(hm:∀m∈ms,m.op≠q)(hw:w'=st T w):RXS W T0 vs ms al_ q st (L.setIfInBounds q true) T w':=
 ⟨w,h.mark hq hm,fun hn=>absurd (Array.getElem?_setIfInBounds_self_of_lt (Array.getElem?_eq_some_iff.1 hL).1) hn,fun _=>hw⟩
theorem RXS.here(h:RXS W T0 vs ms al_ q st L T w)(hL:L[q]?=some false):RX W T0 vs ms al_ L T w:=by
 obtain⟨w0,h0,h1,-⟩:=h;obtain rfl:=h1 (by rw[hL];simp);exact h0
end
theorem RG.five{W:World}{T0:Array Value}{vs:List VS}{L:Array Bool}{T:Array Value}{w:World}{k1 k2 k3 k4 k5 s1 s2 s3 s4 s5 R C Cu Cw:Nat}{F1 F2 F3 F4 F5:Nat->Nat->Int}
  (h:RG W T0 vs [⟨k1,s1,R,C,F1⟩,⟨k2,s2,R,Cu,F2⟩,⟨k3,s3,R,Cu,F3⟩,⟨k4,s4,C,Cw,F4⟩,⟨k5,s5,C,Cw,F5⟩] L T w) (o1:k1<k2) (o2:k2<k3) (o3:k3<k4) (o4:k4<k5)
  (l1:L[k1]?=some true) (l2:L[k2]?=some true) (l3:L[k3]?=some true) (l4:L[k4]?=some true) (l5:L[k5]?=some true):
  ∃so sc uo uc vo vc wo wc xo xc,T[s1]?=some (.agg #[.int .i64 R,.int .i64 C,.slice so R sc])/\T[s2]?=some (.agg #[.int .i64 R,.int .i64 Cu,.slice uo R uc])/\T[s3]?=some (.agg #[.int .i64 R,.int .i64 Cu,.slice vo R vc])∧
   T[s4]?=some (.agg #[.int .i64 C,.int .i64 Cw,.slice wo C wc])/\T[s5]?=some (.agg #[.int .i64 C,.int .i64 Cw,.slice xo C xc])∧
   zP3 W.heap.size R C Cu Cw ⟨F1,F2,F3,F4,F5⟩ w (.agg #[.int .i64 R,.int .i64 C,.slice so R sc,.int .i64 R,.int .i64 Cu,.slice uo R uc,.int .i64 R,.int .i64 Cu,.slice vo R vc,.int .i64 C,.int .i64 Cw,.slice wo C wc,.int .i64 C,.int .i64 Cw,.slice xo C xc]):=by
 obtain⟨bot,top,g1,g2⟩:=h.gh;have M1:(⟨k1,s1,R,C,F1⟩:MS)∈ [(⟨k1,s1,R,C,F1⟩:MS),⟨k2,s2,R,Cu,F2⟩,⟨k3,s3,R,Cu,F3⟩,⟨k4,s4,C,Cw,F4⟩,⟨k5,s5,C,Cw,F5⟩]:=by simp
 have M2:(⟨k2,s2,R,Cu,F2⟩:MS)∈ [(⟨k1,s1,R,C,F1⟩:MS),⟨k2,s2,R,Cu,F2⟩,⟨k3,s3,R,Cu,F3⟩,⟨k4,s4,C,Cw,F4⟩,⟨k5,s5,C,Cw,F5⟩]:=by simp
 have M3:(⟨k3,s3,R,Cu,F3⟩:MS)∈ [(⟨k1,s1,R,C,F1⟩:MS),⟨k2,s2,R,Cu,F2⟩,⟨k3,s3,R,Cu,F3⟩,⟨k4,s4,C,Cw,F4⟩,⟨k5,s5,C,Cw,F5⟩]:=by simp
 have M4:(⟨k4,s4,C,Cw,F4⟩:MS)∈ [(⟨k1,s1,R,C,F1⟩:MS),⟨k2,s2,R,Cu,F2⟩,⟨k3,s3,R,Cu,F3⟩,⟨k4,s4,C,Cw,F4⟩,⟨k5,s5,C,Cw,F5⟩]:=by simp
 have M5:(⟨k5,s5,C,Cw,F5⟩:MS)∈ [(⟨k1,s1,R,C,F1⟩:MS),⟨k2,s2,R,Cu,F2⟩,⟨k3,s3,R,Cu,F3⟩,⟨k4,s4,C,Cw,F4⟩,⟨k5,s5,C,Cw,F5⟩]:=by simp
 obtain⟨a1,a2,_,a3,so,sc,bS,rfl,a5,a6⟩:=g1 _ M1 l1;obtain⟨b1,b2,_,b3,uo,uc,bU,rfl,b5,b6⟩:=g1 _ M2 l2;obtain⟨c1,c2,_,c3,vo,vc,bV,rfl,c5,c6⟩:=g1 _ M3 l3;obtain⟨d1,d2,_,d3,wo,wc,bW,rfl,d5,d6⟩:=g1 _ M4 l4;obtain⟨e1,e2,_,e3,xo,xc,bX,rfl,e5,e6⟩:=g1 _ M5 l5;have r12:=g2 _ M1 _ M2 o1 l1 l2;have r13:=g2 _ M1 _ M3 (by dsimp only;omega) l1 l3;have r14:=g2 _ M1 _ M4 (by dsimp only;omega) l1 l4;have r15:=g2 _ M1 _ M5 (by dsimp only;omega) l1 l5;have r23:=g2 _ M2 _ M3 (by dsimp only;omega) l2 l3;have r24:=g2 _ M2 _ M4 (by dsimp only;omega) l2 l4;have r25:=g2 _ M2 _ M5 (by dsimp only;omega) l2 l5;have r34:=g2 _ M3 _ M4 (by dsimp only;omega) l3 l4;have r35:=g2 _ M3 _ M5 (by dsimp only;omega) l3 l5;have r45:=g2 _ M4 _ M5 (by dsimp only;omega) l4 l5;refine⟨so,sc,uo,uc,vo,vc,wo,wc,xo,xc,a3,b3,c3,d3,e3,⟨so,sc,uo,uc,vo,vc,wo,wc,xo,xc,bS,bU,bV,bW,bX,rfl,a5,b5,c5,d5,e5,?_,yW a6 b6 r12,yW a6 c6 r13,yW a6 d6 r14,yW a6 e6 r15,yW b6 c6 r23,yW b6 d6 r24,yW b6 e6 r25,yW c6 d6 r34,yW c6 e6 r35,yW d6 e6 r45⟩⟩;rintro b (hb|hb|hb|hb|hb)
 ·exact Nat.le_trans a1 (a6 b hb).1
 ·exact Nat.le_trans b1 (b6 b hb).1
 ·exact Nat.le_trans c1 (c6 b hb).1
 ·exact Nat.le_trans d1 (d6 b hb).1
 ·exact Nat.le_trans e1 (e6 b hb).1
def zQb:Array Value:=#[.int .i64 0,.int .i64 0,.slice none 0 0,.int .i64 0,.int .i64 0,.slice none 0 0,.int .i64 0,.int .i64 0,.slice none 0 0,.int .i64 0,.int .i64 0,.slice none 0 0,.int .i64 0,.int .i64 0,.slice none 0 0]
structure zQa(w:World)(f:Value)(R C:Nat)(S U V W X:List (List Int)):Prop where
 ex:∃s u v x y,f= .agg #[.int .i64 R,.int .i64 C,s,.int .i64 R,.int .i64 R,u,.int .i64 R,.int .i64 R,v,.int .i64 C,.int .i64 C,x,.int .i64 C,.int .i64 C,y]/\jA w s S/\jA w u U/\jA w v V/\jA w x W/\jA w y X
theorem zFZ(n:Nat)(w:World)(hn:n<=1000000):Calls Tryz.prog 151 #[.int .i64 n] w fun e w'=>∃v,e= .returned v/\zDs n n idf w.heap.size w'.heap.size w' v/\Below w.heap.size w w':=
 (zGB n w hn).mono fun _ _ hr=>hr.within
def zRV(R C:Nat)(F:Nat->Nat->Int):World->Value->Prop:=fun w v=>∃o c,v= .agg #[.int .i64 R,.int .i64 C,.slice o R c]/\jA w (.slice o R c) (zY R C F)
theorem zFE{B base:Nat}{w a b:World}(h:Below B w a)(ho:zX (fun k=>base<=k) a b)(hB:B<=base)(hsz:B<=a.heap.size):Below B w b:=
 ⟨ho.bel.os.trans h.os,ho.bel.tape.trans h.tape,ho.bel.output.trans h.output,Nat.le_trans h.size ho.bel.size,fun k hk=>(ho.old k oM oM).trans (h.block k hk)⟩
theorem jA.off{w w':World}{v:Value}{M:List (List Int)}{g:Nat}{T:TypeId}{cs:Array Value}(h:jA w v M)(hg:Blk w g T cs)(h1:T≠tR)(h2:T≠tI)(ho:∀b,b≠g->w'.heap[b]?=w.heap[b]?)(hx:yI w w'):jA w' v M:=by
 obtain⟨ao,n,cap,e1,e2,e3,e4,e5⟩:=h;refine⟨ao,n,cap,e1,e2,e3,e4,fun hn=>?_⟩;obtain⟨b,cs',q1,q2,q3⟩:=e5 hn;have hne:∀{c:Nat} {U:TypeId} {ds:Array Value},w.heap[c]?=some (.cells ds U (0,0))->T≠U->c≠g:=by
  intro c U ds hc hT hh;subst hh;have hg':w.heap[c]?=some (.cells cs T (0,0)):=hg;rw[hg']at hc;injection hc with hc
  injection hc with _ ht
  exact hT ht
 refine⟨b,cs',q1,(ho b (hne q2 h1)).trans q2,fun k zs hk=>?_⟩;obtain⟨rv,r1,ao',n',cap',r2,r3,r4,r5,r6⟩:=q3 k zs hk;refine⟨rv,r1,ao',n',cap',r2,r3,r4,r5,fun hz=>?_⟩;obtain⟨b',s1,cs2,s2,s3⟩:=r6 hz;exact⟨b',s1,cs2,(ho b' (hne s2 h2)).trans s2,fun k z hk=>by
  obtain⟨a1,a2,a3,a4,a5,a6,a7⟩:=s3 k z hk;exact⟨a1,a2,a3,a4,a5,a6,a7.ext hx⟩⟩
end Go.Proofs.YtnbmaipobhppcaaGreat
