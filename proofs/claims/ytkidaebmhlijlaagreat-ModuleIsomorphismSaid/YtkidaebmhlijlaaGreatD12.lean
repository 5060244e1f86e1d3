/- Joined. -/
import Derived.ChangeArms
import Derived.ProofKit
import Derived.OpenShut
import Derived.Test.YtkidaebmhlijlaaGreatD08
import Derived.Test.YtkidaebmhlijlaaGreatD09
set_option linter.unusedVariables false
set_option linter.unusedSimpArgs false
set_option linter.unusedSectionVars false
set_option maxHeartbeats 16000000
set_option maxRecDepth 100000
variable{ls:List Int}{C R b0 f i j:Nat}{v:Go.Value}{w:Go.World}
namespace Go.Proofs.YtkidaebmhlijlaaGreat
open Go.RowKit
def qAW(M:List (List Int))(xs ys:List Nat):Nat->Nat->Int:=fun a b=>ent M (xs.getD a 0) (ys.getD b 0)
structure zZv(w:World)(f:Value)(R C:Nat)(S U V W X:List (List Int)):Prop where
 ex:∃s u v x y,f= .agg #[niq R,niq C,s,niq R,niq R,u,niq R,niq R,v,niq C,niq C,x,niq C,niq C,y]/\zBq w s S/\zBq w u U/\zBq w v V/\zBq w x W/\zBq w y X
theorem zYZ(hi:i<R)(hj:j<C):i*C+j<R*C:=by
 have:(i+1)*C<=R*C:=zM _ hi;rw[zZ]at this;omega
theorem zU2(v:Value)(R C:Nat)(ls:List Int)(w:World)(h:zHT w v ls)(hl:ls.length=R*C)(hR:R<=1000)(hC:C<=1000):
  CPq 51 #[niq R,niq C,v] w (zEm w R C (genM R C (fun i j=>ls.getD (i*C+j) 0))):=by
 obtain⟨ao,n,cap,rfl,h2,h3,h4,-,-⟩:=id h;have HL:=xgw h2;have hnR:n=R*C:=oM;have HN:=xgw hnR;obtain⟨f,hf⟩:∃f:Nat->Nat->Int,(fun i j=>ls.getD (i*C+j) 0)=f:=⟨_,rfl⟩;rw[hf];have HFE:jZ (∀i j,f i j=ls.getD (i*C+j) 0):=⟨fun i j=>by rw[<-hf]⟩;clear hf h2 hl hnR;go_enter Tryz.func51,Tryz.ntmps51;go_upto_region 1 with(fail)
 refine zD ?_;intro W0 hW0;obtain⟨hB0,br,hs0⟩:=qL hW0;go_wp2_with fail
 refine(zGF R C W0 oM oM).mono ?_;rintro e w2 ⟨u,bs,rfl,⟨hbl,A2,rfl,ho⟩,hb2⟩;obtain⟨oo,on,oc,rfl,-,-,-,-⟩:=id ho.rows;have hlts:=ho.lts;go_upto_region 2 with(fail)
 refine zD ?_;intro W3 hW3;obtain⟨hB3,T5,hs3⟩:=qL hW3;have br:=(br.below hb2).below hB3;have ho:=ho.below hB3;rw[zGi R C f]at ho;have hBt:=nx (nx hB0 hb2) hB3;have q2:=hb2.size;clear hW3 hW0;go_wp2;go_loopw [8] (fun iv wr=>∃i:Nat,i<=R/\iv=niq i/\BWq w wr/\Blk wr w.heap.size 32 #[niq 0,niq 0,.slice none 0 0]/\Blk wr w2.heap.size 32 #[niq R,niq C,.slice oo on oc]/\qC wr W0.heap.size (.slice oo on oc) C bs (genM R C (zIT f i 0))) (fun iv _=>R-(intOf iv).toNat)
 case atStart=>exact⟨0,oM,rfl,hBt,br,T5,ho⟩
 obtain⟨i,hi,rfl,hb,br,T5,ho⟩:=hrel;by_cases hlt:i<R
 ·go_wp2
  go_loopw [9] (fun jv wr=>∃j:Nat,j<=C/\jv=niq j/\BWq w wr/\Blk wr w.heap.size 32 #[niq 0,niq 0,.slice none 0 0]/\Blk wr w2.heap.size 32 #[niq R,niq C,.slice oo on oc]/\qC wr W0.heap.size (.slice oo on oc) C bs (genM R C (zIT f i j))) (fun jv _=>C-(intOf jv).toNat)
  case atStart=>exact⟨0,oM,rfl,hb,br,T5,ho⟩
  obtain⟨j,hj,rfl,hb,br,T5,ho⟩:=hrel;by_cases hjc:j<C
  ·have hmn:i*C+j<n:=by rw[HN.out];exact zYZ hlt hjc
   have hn6:n<=1000000:=by rw[HN.out];exact zB (qO hR hC) oM
   obtain⟨m,hm⟩:∃m,i*C+j=m:=⟨_,rfl⟩;have hmi:(i:Int)*(C:Int)+(j:Int)=(m:Int):=by rw[<-hm,zAN,yS]
   have hp0:0<=(i:Int)*(C:Int):=oM;have hp1:(i:Int)*(C:Int)<=1000000:=oM;have hw1:IntKind.i64.wrap ((i:Int)*(C:Int))=(i:Int)*(C:Int):=qU _ oM;have hw2:IntKind.i64.wrap (m:Int)=(m:Int):=qU _ oM;have hmlt:m<n:=oM;have hlt3:(i:Int)*(C:Int)+(j:Int)<(n:Int):=oM;obtain⟨b,z,rfl,hbl1,hz,c1,z1,z2⟩:=(h.below hb).cell (k:=m) (by rw[HL.out];exact hmlt);have hent:Hid (f i j=z):=by rw[HFE.out,hm,zBz hz];exact xgw rfl
   obtain⟨g,bo,rfl,hg,hbo,hbo2,o1,ho3⟩:=ho.at_ (i:=i) oM;have f1:=T5.three;have hio:i<on:=oM;have HO3:=xgw ho3;have HM:=xgw hm;clear ho3 hm hz;have lt5:=T5.lt;go_upto_region 8 with(fail)
   refine yP 16 [pcI 14 (z)] ?_;refine sRd ?_;refine sRc (fun wS hI Gk hG=>by go_simp;exact ck hG (zCx z _ z1 z2)) (fun va14 _=>?_);refine sRd ?_;refine sRe ?_;intro w9 hbw9 ha14;obtain⟨pn,pa,pl,pc,px,rfl,hpx⟩:=id ha14;have HPX:=xgw hpx;clear hpx;have ho9:=ho.below hbw9;obtain⟨sn,sa,sl,sc,y1,y2,y3,y4,-⟩:=ho9.cellAt hbo hjc;have hbolt:=hlts i bo hbo;have hset:=ho9.set hbo hjc ha14;clear hw1 hw2 hmi hp0 hp1 hlt3;go_wp2;go_roundw
   case rel=>
    rw[<-hent.out,zJ5 hlt hjc]at hset;exact⟨j+1,oM,by simp,yJ (yJ (nx hb hbw9) oM _ _) oM _ _,(yO _ _ _ _ _ _ _ oM).trans (br.below hbw9),(yO _ _ _ _ _ _ _ oM).trans (T5.below hbw9),hset.1⟩
   case measure=>exact meq
  obtain rfl:j=C:=oM;rw[zJB]at ho;go_wp2;go_roundw
  case rel=>exact⟨i+1,oM,by simp,hb,br,T5,ho⟩
  case measure=>exact meq
 obtain rfl:i=R:=oM;rw[zJA]at ho;have f1:=T5.three;have r1:=br.three;have q1:=hB0.size;go_wp2;refine zAZ rfl rfl rfl (br.put3 _ _ _) ⟨_,bs,rfl,⟨hbl,_,rfl,?_⟩,yJ (yJ (yJ hb oM 0 _) oM 1 _) oM 2 _⟩;exact(ho.keep (fun k hk=>zAf _ _ k _ _ _ oM) (br.lext3 dE _ _ _)).mono q1
def I8V(w:World)(v:Value)(ls:List Int):Prop:=
 ∃ao n cap,v= .slice ao n cap/\ls.length=n/\n<=cap/\cap<=9223372036854775807/\(∀z∈ls,-128<=z/\z<=127)∧
  (ls≠ []->∃b off,ao=some ⟨b,off,none⟩/\b<w.heap.size/\∀(k:Nat) (z:Int),ls[k]?=some z->w.cell? ⟨b,off+k,none⟩=some (.int .i8 z))
theorem I8V.cell{ao:Option Addr}{n cap:Nat}(h:I8V w (.slice ao n cap) ls){k:Nat}(hk:k<ls.length):
  ∃b off z,ao=some ⟨b,off,none⟩/\b<w.heap.size/\ls[k]?=some z/\w.cell? ⟨b,off+k,none⟩=some (.int .i8 z)/\-128<=z/\z<=127:=by
 obtain⟨ao',n',cap',h1,h2,h3,h4,h5,h6⟩:=h;injection h1 with e1 e2 e3
 subst e1;obtain⟨b,off,e,hb,hc⟩:=h6 (by rintro rfl;simp at hk);have hz:=xga hk;have:=h5 _ (xgd hz);exact⟨b,off,_,e,hb,hz,hc _ _ hz,this.1,this.2⟩
theorem I8V.below{w':World}(h:I8V w v ls)(hb:BWq w w'):I8V w' v ls:=by
 obtain⟨ao,n,cap,h1,h2,h3,h4,h5,h6⟩:=h;refine⟨ao,n,cap,h1,h2,h3,h4,h5,fun hne=>?_⟩;obtain⟨b,off,e,hlt,hc⟩:=h6 hne;exact⟨b,off,e,zJ hlt hb.size,fun k z hz=>(hb.cell (p:=⟨b,off+k,none⟩) hlt).trans (hc k z hz)⟩
def zHF(C:Nat)(ls:List Int):Nat->Nat->Int:=fun i j=>(ls.getD (i*C+j) 0).tmod 10
theorem zUb(h:ls.length<=i*C+j):zHF C ls i j=0:=by
 unfold zHF;rw[xgb,List.getElem?_eq_none h];rfl
theorem zWb{z:Int}:(Int.tmod z 10).natAbs<=9:=by
 rcases zCn 0 z with h|h
 rw[zBh h];omega;have:Int.tmod z 10=-(Int.tmod (-z) 10):=by rw[Int.neg_tmod];omega
 rw[this,zBh oM];omega
theorem zEz(C:Nat)(ls:List Int)(i j:Nat):(zHF C ls i j).natAbs<=9:=zWb
theorem zUD{f:Nat->Nat->Int}(h:∀b,j<=b->f i b=0):genM R C (zIT f i j)=genM R C (zIT f (i+1) 0):=
 zAG fun a _ b _=>by
  unfold zIT;by_cases e:a<i∨(a=i/\b<j)
  ·rw[if_pos e,if_pos oM]
  rw[if_neg e];by_cases e2:a<i+1∨a=i+1/\b<0
  ·rw[if_pos e2]
   obtain rfl:a=i:=oM;exact(h b oM).symm
  rw[if_neg e2]
theorem zKZ(v:Value)(R C:Nat)(ls:List Int)(w:World)(h:I8V w v ls)(hR:R<=16)(hC:C<=16):
  CPq 54 #[.int .i64 R,.int .i64 C,v] w (zEm w R C (genM R C (zHF C ls))):=by
 obtain⟨ao,n,cap,rfl,h2,h3,h4,-,-⟩:=id h;have HL:=xgw h2;obtain⟨f,hf⟩:∃f:Nat->Nat->Int,zHF C ls=f:=⟨_,rfl⟩;rw[hf];have HFE:jZ (∀i j,f i j=zHF C ls i j):=⟨fun i j=>by rw[<-hf]⟩;clear hf h2;go_enter Tryz.func54,Tryz.ntmps54;go_upto_region 1 with(fail)
 refine zD ?_;intro W0 hW0;obtain⟨hB0,br,hs0⟩:=qL hW0;have e1:min (R:Int) 16=R:=oM;have e2:min (C:Int) 16=C:=oM;go_wp2_with fail
 refine(zGF R C W0 oM oM).mono ?_;rintro e w2 ⟨u,bs,rfl,⟨hbl,A2,rfl,ho⟩,hb2⟩;obtain⟨oo,on,oc,rfl,-,-,-,-⟩:=id ho.rows;have hlts:=ho.lts;go_upto_region 2 with(fail)
 refine zD ?_;intro W3 hW3;obtain⟨hB3,T7,hs3⟩:=qL hW3;have br:=(br.below hb2).below hB3;have ho:=ho.below hB3;rw[zGi R C f]at ho;have hBt:=nx (nx hB0 hb2) hB3;have q2:=hb2.size;clear hW3 hW0 e1 e2;go_wp2;go_loopw [8] (fun iv wr=>∃i:Nat,i<=R/\iv= .int .i64 i/\BWq w wr/\Blk wr w.heap.size 32 #[.int .i64 0,.int .i64 0,.slice none 0 0]/\Blk wr w2.heap.size 32 #[.int .i64 R,.int .i64 C,.slice oo on oc]/\qC wr W0.heap.size (.slice oo on oc) C bs (genM R C (zIT f i 0))) (fun iv _=>R-(intOf iv).toNat)
 case atStart=>exact⟨0,oM,rfl,hBt,br,T7,ho⟩
 obtain⟨i,hi,rfl,hb,br,T7,ho⟩:=hrel;have f1:=T7.three;by_cases hlt:i<R
 ·go_wp2
  clear f1;go_loopw [9] (fun jv wr=>∃j:Nat,j<=C/\jv= .int .i64 j/\BWq w wr/\Blk wr w.heap.size 32 #[.int .i64 0,.int .i64 0,.slice none 0 0]/\Blk wr w2.heap.size 32 #[.int .i64 R,.int .i64 C,.slice oo on oc]/\qC wr W0.heap.size (.slice oo on oc) C bs (genM R C (zIT f i j))) (fun jv _=>C-(intOf jv).toNat)
  case atStart=>exact⟨0,oM,rfl,hb,br,T7,ho⟩
  obtain⟨j,hj,rfl,hb,br,T7,ho⟩:=hrel;have f1:=T7.three;obtain⟨m,hm⟩:∃m,i*C+j=m:=⟨_,rfl⟩;have hmi:(i:Int)*(C:Int)+(j:Int)=(m:Int):=by rw[<-hm,zAN,yS]
  have hiC:i*C<=16*16:=qO oM hC;have hp0:0<=(i:Int)*(C:Int):=by rw[<-yS];omega
  have hp1:(i:Int)*(C:Int)<=1000000:=by rw[<-yS];omega
  have hw1:IntKind.i64.wrap ((i:Int)*(C:Int))=(i:Int)*(C:Int):=qU _ oM;have hw2:IntKind.i64.wrap (m:Int)=(m:Int):=qU _ oM;have hmm:IntKind.i64.wrap ((i:Int)*(C:Int)+(j:Int))=(m:Int):=by rw[hmi,hw2]
  by_cases hjc:j<C
  ·by_cases hmn:m<n
   ·obtain⟨b,off,z,rfl,hbl1,hz,c1,z1,z2⟩:=h.cell (k:=m) (by rw[HL.out];exact hmn)
    have hcell:=(hb.cell (p:=⟨b,off+m,none⟩) hbl1).trans c1;have hent:Hid (f i j=Int.tmod z 10):=xgw (by rw[HFE.out];unfold zHF;rw[hm,zBz hz]);have ht9:(Int.tmod z 10).natAbs<=9:=zWb;obtain⟨t,ht⟩:∃t,Int.tmod z 10=t:=⟨_,rfl⟩;rw[ht]at hent ht9;obtain⟨g,bo,rfl,hg,hbo,hbo2,o1,ho3⟩:=ho.at_ (i:=i) oM;have hio:i<on:=oM;have HO3:=xgw ho3;have HM:=xgw hm;have HT:=xgv ht;have lt7:=T7.lt;clear ho3 hm hz hiC c1 ht;go_upto_region 8 with(fail)
    refine yP 19 [pcD 15 [] (fun _ v=>v= .int .i8 t),pcD 16 [] (fun _ v=>v= .int .i64 t),pcI 17 (t)] ?_;refine sRd ?_;refine sRc (fun wS hI Gk hG=>?_) (fun _ hv=>?_)
    ·go_simp
     exact⟨hG _ _ (congrArg (Value.int .i8) HT.out),zA _ _⟩
    obtain⟨_,-,rfl⟩:=hv;refine sRc (fun wS hI Gk hG=>?_) (fun _ hv=>?_)
    ·go_simp
     exact⟨hG _ _ (congrArg (Value.int .i64) (qU _ oM)),zA _ _⟩
    obtain⟨_,-,rfl⟩:=hv;refine sRc (fun wS hI Gk hG=>by go_simp;exact ck hG (zCx t _ oM oM)) (fun va17 _=>?_);refine sRd ?_;refine sRe ?_;intro w9 hbw9 _ _ ha17;obtain⟨pn,pa,pl,pc,px,rfl,hpx⟩:=id ha17;have HPX:=xgw hpx;clear hpx;have ho9:=ho.below hbw9;obtain⟨sn,sa,sl,sc,y1,y2,y3,y4,-⟩:=ho9.cellAt hbo hjc;have hbolt:=hlts i bo hbo;have hset:=ho9.set hbo hjc ha17;clear hw1 hw2 hmi hp0 hp1 hmm ht9;go_wp2;go_roundw
    case rel=>
     rw[<-hent.out,zJ5 hlt hjc]at hset;exact⟨j+1,oM,by simp,yJ (yJ (nx hb hbw9) oM _ _) oM _ _,(yO _ _ _ _ _ _ _ oM).trans (br.below hbw9),(yO _ _ _ _ _ _ _ oM).trans (T7.below hbw9),hset.1⟩
    case measure=>exact meq
   have hrest:∀b,j<=b->f i b=0:=fun b hb=>by
    rw[HFE.out];exact zUb (by rw[HL.out];omega)
   rw[zUD hrest]at ho;clear hmi hp0 hp1 hiC hm;go_wp2;go_roundw
   case rel=>exact⟨i+1,oM,by simp,hb,br,T7,ho⟩
   case measure=>exact meq
  obtain rfl:j=C:=oM;rw[zJB]at ho;clear hmi hp0 hp1 hmm hw1 hw2;go_wp2;go_roundw
  case rel=>exact⟨i+1,oM,by simp,hb,br,T7,ho⟩
  case measure=>exact meq
 obtain rfl:i=R:=oM;rw[zJA]at ho;have r1:=br.three;have q1:=hB0.size;go_wp2;refine zAZ rfl rfl rfl (br.put3 _ _ _) ⟨_,bs,rfl,⟨hbl,_,rfl,?_⟩,yJ (yJ (yJ hb oM 0 _) oM 1 _) oM 2 _⟩;exact(ho.keep (fun k hk=>zAf _ _ k _ _ _ oM) (br.lext3 dE _ _ _)).mono q1


def qAk(F:Nat->Nat->Int)(i j:Nat)(k:Int):Nat->Nat->Int:=fun a b=>if b=i then F a i+k*F a j else F a b
def qAO(F:Nat->Nat->Int)(i j:Nat)(k:Int)(c:Nat):Nat->Nat->Int:=fun a b=>if a=i/\b<c then F i b+k*F j b else F a b
def qAN(F:Nat->Nat->Int)(i j:Nat)(k:Int)(c:Nat):Nat->Nat->Int:=fun a b=>if b=i/\a<c then F a i+k*F a j else F a b

end Go.Proofs.YtkidaebmhlijlaaGreat

namespace Go.Proofs.YtkidaebmhlijlaaGreat
open Go.ChangeShapes Go.WideShapes Go.ChangeAt Go.RowKit
theorem Tryz.own:ownKnob Tryz.prog.godebug=none:=by kernel_rfl
theorem Tryz.laidOut:laidOutB Tryz.prog=true:=by kernel_rfl
abbrev zBt:=@Tryz.laidOut
theorem zWr:Tryz.prog.cellsOf 78=2:=by kernel_rfl
theorem zRy:Tryz.prog.cellsOf 5=1:=by kernel_rfl
theorem zS7{H:Type}{enc:TypeId × Value->H}{base:Nat}{spare:Nat->Bool}{held:Bool}{r:Reach}{d:DataW H}{ps:List MemPlace}(hval:Value.okWide Tryz.prog w r b0 78 v)
  (h:DataW.Trod enc Tryz.prog w base spare held 78 v d ps):∃a b:Int,v= .agg #[.int .u8 a,.int .u8 b]/\(0<=a/\a<=255)/\(0<=b/\b<=255):=by
 simp only[Value.okWide,Tryz.underlying78]at hval;obtain⟨cs,rfl,hsz,-⟩:=hval;obtain⟨fuel,hf⟩:=h;obtain⟨xs,m,-,-,h1,h2,h3⟩:=DataW.trod_array Tryz.underlying78 hf;rw[zWr]at h1;have e0:=h3 0 oM;have e1:=h3 1 oM;rw[zRy]at e0 e1;rw[xga oM]at e0 e1;obtain⟨a,ha,-,wa⟩:=DataW.trod_int zBu e0;obtain⟨b,hb,-,wb⟩:=DataW.trod_int zBu e1;simp only[Value.cells]at ha hb h1;obtain⟨cl⟩:=cs;match cl,h1 with
 | [c0,c1],_=>
  simp at ha hb;subst ha;subst hb;simp[Lit.wf,IntKind.min,IntKind.max,IntKind.bits,IntKind.signed]at wa wb;exact⟨a,b,rfl,oM,oM⟩
theorem zS6{H:Type}{enc:TypeId × Value->H}{cs:List Value}{y:DataW H × List MemPlace}(hf:DataW.trod enc Tryz.prog w 0 (fun _=>true) true f 22 cs=some y)(hlt:∀x∈y.2,x.block<w.heap.size):
  ∃ao n cap ls,cs= [.slice ao n cap]/\I8V w (.slice ao n cap) ls:=by
 rcases open_ints Tryz.underlying22 Tryz.underlying66 kR hf with⟨e1,-⟩|⟨a,len,cap,zs,e1,-,hl,hm,hzl,e2,hcell,hwf⟩
 exact⟨none,0,0,[],e1,none,0,0,rfl,rfl,xgf _,oM,fun z hz=>(by cases hz),fun h=>absurd rfl h⟩;simp only[if_true]at hzl;unfold maxLen at hm;refine⟨some a,len,cap,zs.take len,e1,some a,len,cap,rfl,by simp;omega,hl,oM,fun z hz=>?_,fun h=>?_⟩
 ·have:=hwf z (List.mem_of_mem_take hz)
  exact bounds_i8 this
 have hpos:0<zs.length:=by
  rcases qN zs.length with h0|h0
  exact absurd (by rw[qE h0];simp) h;exact h0
 obtain⟨b,off,rfl,hj⟩:=ints_at hcell hpos;refine⟨b,off,rfl,?_,fun k z hk=>?_⟩;exact hlt (.cell b off) (by rw[e2];exact MemPlace.mem_row.2 ⟨0,hpos,rfl⟩);obtain⟨h1,h2⟩:=xge.1 hk;rw[zC1]at h2;have hkz:k<zs.length:=by
  simp at h1;omega
 rw[hj k hkz,<-h2];simp[hkz]
theorem zPU{H:Type}{enc:TypeId × Value->H}{r:Reach}{d:DataW H}{ps:List MemPlace}(hval:Value.okWide Tryz.prog w r b0 22 v)
  (h:DataW.Trod enc Tryz.prog w 0 (fun _=>true) true 22 v d ps) (hlt:∀x∈ps,x.block<w.heap.size):∃ls,I8V w v ls:=by
 obtain⟨a0,len0,cap0,rfl⟩:=okWide_slice Tryz.underlying22 hval;obtain⟨fuel,hf⟩:=h;obtain⟨ao,n,cap,ls,hk,hI⟩:=zS6 hf hlt;simp[Value.cells]at hk;obtain⟨rfl,rfl,rfl⟩:=hk;exact⟨ls,hI⟩
theorem zFe{H:Type}{enc:TypeId × Value->H}{w:World}{f:Nat}{cl:List Value}{d:DataW H}{ps:List MemPlace}
  (hf:DataW.trod enc Tryz.prog w 0 (fun _=>true) true f 24 cl=some (d,ps)) (hlt:∀x∈ps,x.block<w.heap.size):∃(a:Nat) (sv:Value) (ls:List Int),cl= [.int .u8 a,sv]/\a<=255/\I8V w sv ls:=by
 obtain⟨xs,m,h0,h1,h2,h3,h4⟩:=DataW.trod_struct Tryz.underlying24 hf;have c24:Tryz.prog.cellsOf 24=2:=by kernel_rfl
 have c22:Tryz.prog.cellsOf 22=1:=by kernel_rfl
 have g0:DataW.trod enc Tryz.prog w 0 (fun _=>true) true m 5 (List.take (Tryz.prog.cellsOf 5) (List.drop 0 cl))=xs[0]?:=h4 0 _ rfl;have g1:DataW.trod enc Tryz.prog w 0 (fun _=>true) true m 22 (List.take (Tryz.prog.cellsOf 22) (List.drop 1 cl))=xs[1]?:=h4 1 _ rfl;rw[c24]at h2;rw[zRy]at g0;rw[c22]at g1;match xs,h3 with
 | [y0,y1],_=>
  match cl,h2 with
  | [k0,k1],_=>
   simp at g0 g1;obtain⟨a,ha,-,wa⟩:=DataW.trod_int zBu g0;simp only[Prod.mk.injEq]at h1;obtain⟨ao,n,cap,ls,hk,hI⟩:=zS6 g1 (fun x hx=>hlt x (by rw[h1.2];simp[hx]));simp at ha hk;subst ha;subst hk;have wa:=bounds_u8 wa;exact⟨a.toNat,_,ls,by rw[Int.toNat_of_nonneg wa.1],oM,hI⟩
theorem zXw{H:Type}{enc:TypeId × Value->H}{r:Reach}{d:DataW H}{ps:List MemPlace}(hval:Value.okWide Tryz.prog w r b0 24 v)
  (h:DataW.Trod enc Tryz.prog w 0 (fun _=>true) true 24 v d ps) (hlt:∀x∈ps,x.block<w.heap.size):∃(a:Nat) (sv:Value) (ls:List Int),v= .agg #[.int .u8 a,sv]/\a<=255/\I8V w sv ls:=by
 simp only[Value.okWide,Tryz.underlying24]at hval;obtain⟨cs,rfl,hsz,-⟩:=hval;obtain⟨fuel,hf⟩:=h;obtain⟨a,sv,ls,e,h1,h2⟩:=zFe hf hlt;obtain⟨cl⟩:=cs;simp only[Value.cells]at e;subst e;exact⟨a,sv,ls,rfl,h1,h2⟩
theorem zHN{H:Type}{enc:TypeId × Value->H}{r:Reach}{d:DataW H}{ps:List MemPlace}(hval:Value.okWide Tryz.prog w r b0 26 v)
  (h:DataW.Trod enc Tryz.prog w 0 (fun _=>true) true 26 v d ps) (hlt:∀x∈ps,x.block<w.heap.size):∃(c r1 r2 r3:Nat) (v1 v2 v3:Value) (l1 l2 l3:List Int),v= .agg #[.int .u8 c,.int .u8 r1,v1,.int .u8 r2,v2,.int .u8 r3,v3]/\c<=255/\r1<=255/\r2<=255/\r3<=255/\I8V w v1 l1/\I8V w v2 l2/\I8V w v3 l3:=by
 simp only[Value.okWide,Tryz.underlying26]at hval;obtain⟨cs,rfl,hsz,-⟩:=hval;obtain⟨fuel,hf⟩:=h;obtain⟨xs,m,h0,h1,h2,h3,h4⟩:=DataW.trod_struct Tryz.underlying26 hf;have c0:Tryz.prog.cellsOf 26=7:=by kernel_rfl
 have c24:Tryz.prog.cellsOf 24=2:=by kernel_rfl
 have g0:DataW.trod enc Tryz.prog w 0 (fun _=>true) true m 5 (List.take (Tryz.prog.cellsOf 5) (List.drop 0 (Value.agg cs).cells.toList))=xs[0]?:=h4 0 _ rfl;have g1:DataW.trod enc Tryz.prog w 0 (fun _=>true) true m 24 (List.take (Tryz.prog.cellsOf 24) (List.drop 1 (Value.agg cs).cells.toList))=xs[1]?:=h4 1 _ rfl;have g2:DataW.trod enc Tryz.prog w 0 (fun _=>true) true m 24 (List.take (Tryz.prog.cellsOf 24) (List.drop 3 (Value.agg cs).cells.toList))=xs[2]?:=h4 2 _ rfl;have g3:DataW.trod enc Tryz.prog w 0 (fun _=>true) true m 24 (List.take (Tryz.prog.cellsOf 24) (List.drop 5 (Value.agg cs).cells.toList))=xs[3]?:=h4 3 _ rfl;rw[c0]at h2;rw[zRy]at g0;rw[c24]at g1 g2 g3;simp only[Value.cells]at g0 g1 g2 g3 h2;obtain⟨cl⟩:=cs;match xs,h3 with
 | [y0,(y1,p1),(y2,p2),(y3,p3)],_=>
  match cl,h2 with
  | [k0,k1,k2,k3,k4,k5,k6],_=>
   simp at g0 g1 g2 g3;obtain⟨a,ha,-,wa⟩:=DataW.trod_int zBu g0;simp only[Prod.mk.injEq]at h1;obtain⟨r1,v1,l1,e1,q1,I1⟩:=zFe g1 (fun x hx=>hlt x (by rw[h1.2];simp[hx]));obtain⟨r2,v2,l2,e2,q2,I2⟩:=zFe g2 (fun x hx=>hlt x (by rw[h1.2];simp[hx]));obtain⟨r3,v3,l3,e3,q3,I3⟩:=zFe g3 (fun x hx=>hlt x (by rw[h1.2];simp[hx]));simp at ha e1 e2 e3;obtain⟨rfl,rfl⟩:=e1;obtain⟨rfl,rfl⟩:=e2;obtain⟨rfl,rfl⟩:=e3;subst ha;have wa:=bounds_u8 wa;exact⟨a.toNat,r1,r2,r3,_,_,_,l1,l2,l3,by rw[Int.toNat_of_nonneg wa.1],oM,q1,q2,q3,I1,I2,I3⟩
end Go.Proofs.YtkidaebmhlijlaaGreat
