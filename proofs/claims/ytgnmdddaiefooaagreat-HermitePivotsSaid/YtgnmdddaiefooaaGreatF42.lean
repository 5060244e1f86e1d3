/- The arguments of torsionlaw13's statements, opened. torsionref05.Transpose; torsionref13: combine, combineColumns. torsionref13: combine, combineColumns. torsionref13.Changed: what it yields is P F Q, and back. The steps of torsionlaw13's statements, opened. -/
import Derived.ChangeArms
import Derived.ProofKit
import Derived.OpenShut
import Derived.Test.YtgnmdddaiefooaaGreatF15
import Derived.Test.YtgnmdddaiefooaaGreatF16
import Derived.Test.YtgnmdddaiefooaaGreatF40
set_option linter.unusedVariables false
set_option linter.unusedSimpArgs false
set_option linter.unusedSectionVars false
set_option maxHeartbeats 16000000
set_option maxRecDepth 100000
namespace Go.Proofs.YtgnmdddaiefooaaGreat
open Go.ChangeShapes Go.WideShapes Go.ChangeAt Go.RowKit
theorem Tryz.own:ownKnob Tryz.prog.godebug=none:=by kernel_rfl
theorem Tryz.laidOut:laidOutB Tryz.prog=true:=by kernel_rfl
theorem zK0:Tryz.prog.cellsOf 5=1:=by kernel_rfl
theorem zLq{H:Type}{enc:TypeId × Value->H}{w:World}{f:Nat}{cs:List Value}{y:DataW H × List MemPlace}(hf:DataW.trod enc Tryz.prog w 0 (fun _=>true) true f 22 cs=some y)(hlt:∀x∈y.2,x.block<w.heap.size):
  ∃ao n cap ls,cs= [.slice ao n cap]/\I8V w (.slice ao n cap) ls:=by
 rcases open_ints Tryz.underlying22 Tryz.underlying73 kR hf with⟨e1,-⟩|⟨a,len,cap,zs,e1,-,hl,hm,hzl,e2,hcell,hwf⟩
 ·exact⟨none,0,0,[],e1,none,0,0,rfl,rfl,xgf _,by omega,fun z hz=>(by cases hz),fun h=>absurd rfl h⟩
 ·simp only[if_true]at hzl
  unfold maxLen at hm;refine⟨some a,len,cap,zs.take len,e1,some a,len,cap,rfl,by simp;omega,hl,by omega,fun z hz=>?_,fun h=>?_⟩
  ·have:=hwf z (List.mem_of_mem_take hz)
   exact bounds_i8 this
  ·have hpos:0<zs.length:=by
    rcases Nat.eq_zero_or_pos zs.length with h0|h0
    ·exact absurd (by rw[List.eq_nil_of_length_eq_zero h0];simp) h
    ·exact h0
   obtain⟨b,off,rfl,hj⟩:=ints_at hcell hpos;refine⟨b,off,rfl,?_,fun k z hk=>?_⟩
   ·exact hlt (.cell b off) (by rw[e2];exact MemPlace.mem_row.2 ⟨0,hpos,rfl⟩)
   ·obtain⟨h1,h2⟩:=xge.1 hk
    rw[List.getElem_take]at h2;have hkz:k<zs.length:=by
     simp at h1;omega
    rw[hj k hkz,<-h2];simp[hkz]
theorem zKU{H:Type}{enc:TypeId × Value->H}{w:World}{b0:Nat}{r:Reach}{v:Value}{d:DataW H}{ps:List MemPlace}(hval:Value.okWide Tryz.prog w r b0 24 v)
  (h:DataW.Trod enc Tryz.prog w 0 (fun _=>true) true 24 v d ps) (hlt:∀x∈ps,x.block<w.heap.size):∃(a b:Nat) (sv:Value) (ls:List Int),v= .agg #[.int .u8 a,.int .u8 b,sv]/\a<=255/\b<=255/\I8V w sv ls:=by
 simp only[Value.okWide,Tryz.underlying24]at hval;obtain⟨cs,rfl,hsz,-⟩:=hval;obtain⟨fuel,hf⟩:=h;obtain⟨xs,m,h0,h1,h2,h3,h4⟩:=DataW.trod_struct Tryz.underlying24 hf;have c24:Tryz.prog.cellsOf 24=3:=by kernel_rfl
 have c22:Tryz.prog.cellsOf 22=1:=by kernel_rfl
 have g0:DataW.trod enc Tryz.prog w 0 (fun _=>true) true m 5 (List.take (Tryz.prog.cellsOf 5) (List.drop 0 (Value.agg cs).cells.toList))=xs[0]?:=h4 0 _ rfl;have g1:DataW.trod enc Tryz.prog w 0 (fun _=>true) true m 5 (List.take (Tryz.prog.cellsOf 5) (List.drop 1 (Value.agg cs).cells.toList))=xs[1]?:=h4 1 _ rfl;have g2:DataW.trod enc Tryz.prog w 0 (fun _=>true) true m 22 (List.take (Tryz.prog.cellsOf 22) (List.drop 2 (Value.agg cs).cells.toList))=xs[2]?:=h4 2 _ rfl;rw[c24]at h2;rw[zK0]at g0 g1;rw[c22]at g2;simp only[Value.cells]at g0 g1 g2 h2;obtain⟨cl⟩:=cs;match xs,h3 with
 | [y0,y1,y2],_=>
  match cl,h2 with
  | [k0,k1,k2],_=>
   simp at g0 g1 g2;obtain⟨a,ha,-,wa⟩:=DataW.trod_int Tryz.underlying5 g0;obtain⟨b,hb,-,wb⟩:=DataW.trod_int Tryz.underlying5 g1;simp only[Prod.mk.injEq]at h1;obtain⟨ao,n,cap,ls,hk,hI⟩:=zLq g2 (fun x hx=>hlt x (by rw[h1.2];simp[hx]));simp at ha hb hk;subst ha;subst hb;subst hk;have wa:=bounds_u8 wa;have wb:=bounds_u8 wb;exact⟨a.toNat,b.toNat,_,ls,by rw[Int.toNat_of_nonneg wa.1,Int.toNat_of_nonneg wb.1],by omega,by omega,hI⟩
end Go.Proofs.YtgnmdddaiefooaaGreat

namespace Go.Proofs.YtgnmdddaiefooaaGreat
open Go.RowKit

def zN4(F:Nat->Nat->Int)(i j:Nat)(k:Int):Nat->Nat->Int:=fun a b=>if b=i then F a i+k*F a j else F a b
def zNo(F:Nat->Nat->Int)(i j:Nat)(k:Int)(c:Nat):Nat->Nat->Int:=fun a b=>if a=i/\b<c then F i b+k*F j b else F a b
def zNn(F:Nat->Nat->Int)(i j:Nat)(k:Int)(c:Nat):Nat->Nat->Int:=fun a b=>if b=i/\a<c then F a i+k*F a j else F a b
def StV(w:World)(v:Value)(ls:List (Nat × Nat × Nat × Int)):Prop:=
 ∃ao n cap,v= .slice ao n cap/\ls.length=n/\n<=cap/\cap<=9223372036854775807/\(∀s∈ls,s.1<=255/\s.2.1<=255/\s.2.2.1<=255/\-128<=s.2.2.2/\s.2.2.2<=127)∧
  (ls≠ []->∃b off,ao=some ⟨b,off,none⟩/\b<w.heap.size/\∀(k:Nat) (s:Nat × Nat × Nat × Int),ls[k]?=some s->w.cell? ⟨b,off+k*4,none⟩=some (.int .u8 s.1)/\w.cell? ⟨b,off+k*4+1,none⟩=some (.int .u8 s.2.1)/\w.cell? ⟨b,off+k*4+2,none⟩=some (.int .u8 s.2.2.1)/\w.cell? ⟨b,off+k*4+3,none⟩=some (.int .i8 s.2.2.2))
theorem StV.cell{w:World}{ao:Option Addr}{n cap:Nat}{ls:List (Nat × Nat × Nat × Int)}(h:StV w (.slice ao n cap) ls){k:Nat}(hk:k<ls.length):
  ∃b off,∃p q r:Nat,∃z:Int,ao=some ⟨b,off,none⟩/\b<w.heap.size/\p<=255/\q<=255/\r<=255/\-128<=z/\z<=127/\w.cell? ⟨b,off+k*4,none⟩=some (.int .u8 p)/\w.cell? ⟨b,off+k*4+1,none⟩=some (.int .u8 q)/\w.cell? ⟨b,off+k*4+2,none⟩=some (.int .u8 r)/\w.cell? ⟨b,off+k*4+3,none⟩=some (.int .i8 z):=by
 obtain⟨ao',n',cap',h1,h2,h3,h4,h5,h6⟩:=h;injection h1 with e1 e2 e3
 subst e1;obtain⟨b,off,e,hb,hc⟩:=h6 (by rintro rfl;simp at hk);have hz:=xga hk;obtain⟨g1,g2,g3,g4,g5⟩:=h5 _ (xgd hz);obtain⟨c1,c2,c3,c4⟩:=hc _ _ hz;exact⟨b,off,_,_,_,_,e,hb,g1,g2,g3,g4,g5,c1,c2,c3,c4⟩
theorem StV.below{w w':World}{v:Value}{ls:List (Nat × Nat × Nat × Int)}(h:StV w v ls)(hb:Below w.heap.size w w'):StV w' v ls:=by
 obtain⟨ao,n,cap,h1,h2,h3,h4,h5,h6⟩:=h;refine⟨ao,n,cap,h1,h2,h3,h4,h5,fun hne=>?_⟩;obtain⟨b,off,e,hlt,hc⟩:=h6 hne;refine⟨b,off,e,Nat.lt_of_lt_of_le hlt hb.size,fun k s hz=>?_⟩;obtain⟨c1,c2,c3,c4⟩:=hc k s hz;exact⟨(hb.cell (p:=⟨b,off+k*4,none⟩) hlt).trans c1,(hb.cell (p:=⟨b,off+k*4+1,none⟩) hlt).trans c2,(hb.cell (p:=⟨b,off+k*4+2,none⟩) hlt).trans c3,(hb.cell (p:=⟨b,off+k*4+3,none⟩) hlt).trans c4⟩
theorem Fac.refl(R C:Nat)(F:Nat->Nat->Int):Fac R C F F:=⟨idf,idf,fun a ha b hb=>by
 rw[<-zDR ha fun s=>zW C fun t=>F s t*idf t b,zCi hb]⟩
theorem Fac.congr{R C:Nat}{F G G':Nat->Nat->Int}(h:Fac R C F G)(e:∀a,a<R->∀b,b<C->G' a b=G a b):Fac R C F G':=by
 obtain⟨P,Q,h⟩:=h;exact⟨P,Q,fun a ha b hb=>(e a ha b hb).trans (h a ha b hb)⟩
theorem Fac.trans{R C:Nat}{F G H:Nat->Nat->Int}(h:Fac R C F G)(k:Fac R C G H):Fac R C F H:=by
 obtain⟨P,Q,h⟩:=h;obtain⟨P',Q',k⟩:=k;refine⟨fun a s=>zW R fun m=>P' a m*P m s,fun t b=>zW C fun m=>Q t m*Q' m b,fun a ha b hb=>?_⟩;rw[k a ha b hb];have e1:∀m,m<R->zW C (fun t=>G m t*Q' t b)=zW R fun s=>P m s*zW C fun t=>F s t*zW C fun m'=>Q t m'*Q' m' b:=fun m hm=>by
  have e2:∀t,t<C->G m t*Q' t b=zW R fun s=>P m s*zW C fun t'=>F s t'*(Q t' t*Q' t b):=fun t ht=>by
   rw[h m hm t ht,<-zAI];refine zE fun s _=>?_
   rw[Int.mul_assoc,<-zAI];congr 1;exact zE fun t' _=>Int.mul_assoc _ _ _
  rw[zE e2,yO];refine zE fun s _=>?_
  rw[qE,yO];congr 1;exact zE fun t' _=>qE _ _ _
 have e3:∀m,m<R->P' a m*zW C (fun t=>G m t*Q' t b)=zW R fun s=>(P' a m*P m s)*zW C fun t=>F s t*zW C fun m'=>Q t m'*Q' m' b:=fun m hm=>by
  rw[e1 m hm,<-qE];exact zE fun s _=>(Int.mul_assoc _ _ _).symm
 rw[zE e3,yO];exact zE fun s _=>zAI _ _ _
theorem Fac.rows{R C:Nat}{F G P:Nat->Nat->Int}(h:∀a,a<R->∀b,b<C->G a b=zW R fun s=>P a s*F s b):Fac R C F G:=⟨P,idf,fun a ha b hb=>by
 rw[h a ha b hb];exact zE fun s _=>by rw[zCi hb fun t=>F s t]⟩
theorem Fac.ops{R C:Nat}{l:List Op}(hl:qG R l)(F:Nat->Nat->Int):Fac R C F (zA2 l F)/\Fac R C (zA2 l F) F:=
 ⟨Fac.rows (P:=zA2 l idf) fun a ha b _=>zEv hl F a ha b,Fac.rows (P:=fun a s=>zFe l idf s a) fun a ha b _=>zC7 hl F a ha b⟩
structure ChI(R C M i:Nat)(F0 F:Nat->Nat->Int):Prop where
 to_:Fac R C F0 F
 back:Fac R C F F0
 le:leM (M*3^i) R C F
theorem ChI.next{R C M i:Nat}{F0 F G:Nat->Nat->Int}(h:ChI R C M i F0 F)(h1:Fac R C F G)(h2:Fac R C G F)(h3:leM (M*3^i*3) R C G):ChI R C M (i+1) F0 G:=
 ⟨h.to_.trans h1,h2.trans h.back,by rwa[Nat.pow_succ,<-Nat.mul_assoc]⟩
theorem ChI.same{R C M i:Nat}{F0 F:Nat->Nat->Int}(h:ChI R C M i F0 F):ChI R C M (i+1) F0 F:=h.next (Fac.refl _ _ _) (Fac.refl _ _ _) (h.le.mono oM)
theorem ChI.add{R C M i x y:Nat}{k:Int}{F0 F:Nat->Nat->Int}(h:ChI R C M i F0 F)(hx:x<R)(hy:y<R)(hxy:x≠y)(hk:k.natAbs<=2):ChI R C M (i+1) F0 (zAO F x y k):=by
 obtain⟨h1,h2⟩:=Fac.ops (C:=C) (l:=[.add x y k]) (qG.cons ⟨hx,hy,hxy⟩ qG.nil) F;exact h.next h1 h2 ((zGM h.le hx hy).mono (Nat.mul_le_mul_left _ oM))
theorem ChI.swap{R C M i x y:Nat}{F0 F:Nat->Nat->Int}(h:ChI R C M i F0 F)(hx:x<R)(hy:y<R):ChI R C M (i+1) F0 (fun a b=>F (swp x y a) b):=by
 obtain⟨h1,h2⟩:=Fac.ops (C:=C) (l:=[.swap x y]) (qG.cons ⟨hx,hy⟩ qG.nil) F;exact h.next h1 h2 fun a ha b hb=>Nat.le_trans (h.le _ (zFt hx hy ha) b hb) oM
def zNy(F:Nat->Nat->Int)(x y:Nat):Nat->Nat->Int:=fun a b=>if b=x then-(F a y)else if b=y then F a x else F a b
def zN7(F:Nat->Nat->Int)(x y r:Nat):Nat->Nat->Int:=fun a b=>if a<r then zNy F x y a b else F a b
theorem Blk.ne{w:World}{a b:Nat}{T T':TypeId}{cs cs':Array Value}(h:Blk w a T cs)(k:Blk w b T' cs')(hT:T≠T'):a≠b:=by
 rintro rfl;unfold Blk at h k;rw[h]at k;injection k with k
 injection k with k1 k2
 exact hT k2
theorem zK.blk{w:World}{base g n cap C:Nat}{bs:List Nat}{M:List (List Int)}(h:zK w base (.slice (some ⟨g,0,none⟩) n cap) C bs M):base<=g/\∃cs,Blk w g tR cs:=by
 rcases h.own.2 with⟨e,-⟩|⟨g',cap',cur,e,e2,e3,-⟩
 ·cases e
 ·injection e with e8 e9 e10
  injection e8 with e8
  injection e8 with e8
  subst e8;exact⟨e2,cur,e3⟩
theorem yL.below{S:List Nat}{B:Nat}{w a b:World}(h:Below B w a)(ho:yL S a b)(hS:∀k∈S,B<=k)(hsz:B<=a.heap.size):Below B w b:=
 ⟨ho.bel.os.trans h.os,ho.bel.tape.trans h.tape,ho.bel.output.trans h.output,Nat.le_trans h.size ho.bel.size,fun k hk=>(ho.old k oM (fun hh=>by have:=hS k hh;omega)).trans (h.block k hk)⟩
theorem yL.blk{S:List Nat}{w w':World}{g:Nat}{T:TypeId}{cs:Array Value}(h:Blk w g T cs)(ho:yL S w w')(hg:g ∉ S):Blk w' g T cs:=(ho.old g h.lt hg).trans h
end Go.Proofs.YtgnmdddaiefooaaGreat

namespace Go.Proofs.YtgnmdddaiefooaaGreat
open Go.ChangeShapes Go.WideShapes Go.ChangeAt Go.RowKit
theorem zI6{H:Type}{enc:TypeId × Value->H}{w:World}{f:Nat}{cs:List Value}{y:DataW H × List MemPlace}(hf:DataW.trod enc Tryz.prog w 0 (fun _=>true) true f 97 cs=some y):
  ∃p q r:Nat,∃z:Int,cs= [.int .u8 p,.int .u8 q,.int .u8 r,.int .i8 z]/\p<=255/\q<=255/\r<=255/\-128<=z/\z<=127:=by
 obtain⟨xs,m,h0,h1,h2,h3,h4⟩:=DataW.trod_struct Tryz.underlying97 hf;have c105:Tryz.prog.cellsOf 97=4:=by kernel_rfl
 have c41:Tryz.prog.cellsOf 73=1:=by kernel_rfl
 have g0:DataW.trod enc Tryz.prog w 0 (fun _=>true) true m 5 (List.take (Tryz.prog.cellsOf 5) (List.drop 0 cs))=xs[0]?:=h4 0 _ rfl;have g1:DataW.trod enc Tryz.prog w 0 (fun _=>true) true m 5 (List.take (Tryz.prog.cellsOf 5) (List.drop 1 cs))=xs[1]?:=h4 1 _ rfl;have g2:DataW.trod enc Tryz.prog w 0 (fun _=>true) true m 5 (List.take (Tryz.prog.cellsOf 5) (List.drop 2 cs))=xs[2]?:=h4 2 _ rfl;have g3:DataW.trod enc Tryz.prog w 0 (fun _=>true) true m 73 (List.take (Tryz.prog.cellsOf 73) (List.drop 3 cs))=xs[3]?:=h4 3 _ rfl;rw[c105]at h2;rw[zK0]at g0 g1 g2;rw[c41]at g3;match xs,h3 with
 | [y0,y1,y2,y3],_=>
  match cs,h2 with
  | [k0,k1,k2,k3],_=>
   simp at g0 g1 g2 g3;obtain⟨a,ha,-,wa⟩:=DataW.trod_int Tryz.underlying5 g0;obtain⟨b,hb,-,wb⟩:=DataW.trod_int Tryz.underlying5 g1;obtain⟨c,hc,-,wc⟩:=DataW.trod_int Tryz.underlying5 g2;obtain⟨d,hd,-,wd⟩:=DataW.trod_int Tryz.underlying73 g3;simp at ha hb hc hd;subst ha;subst hb;subst hc;subst hd;have wa:=bounds_u8 wa;have wb:=bounds_u8 wb;have wc:=bounds_u8 wc;have wd:=bounds_i8 wd;exact⟨a.toNat,b.toNat,c.toNat,d,by rw[Int.toNat_of_nonneg wa.1,Int.toNat_of_nonneg wb.1,Int.toNat_of_nonneg wc.1],by omega,by omega,by omega,wd.1,wd.2⟩
theorem zMB{H:Type}{enc:TypeId × Value->H}{w:World}{b0:Nat}{r:Reach}{v:Value}{d:DataW H}{ps:List MemPlace}(hval:Value.okWide Tryz.prog w r b0 56 v)
  (h:DataW.Trod enc Tryz.prog w 0 (fun _=>true) true 56 v d ps) (hlt:∀x∈ps,x.block<w.heap.size):∃ls,StV w v ls:=by
 obtain⟨a0,len,cap,rfl⟩:=okWide_slice Tryz.underlying56 hval;obtain⟨fuel,hf⟩:=h;have c105:Tryz.prog.cellsOf 97=4:=by kernel_rfl
 rcases DataW.trod_slice Tryz.underlying56 hf with⟨e1,-⟩|⟨a,len',cap',elems,rest,n,-,e1,e2,-,hl,hm,hlen,hel,-,-⟩
 ·simp[Value.cells]at e1
  obtain⟨rfl,rfl,rfl⟩:=e1;exact⟨[],none,0,0,rfl,rfl,xgf _,by omega,fun z hz=>(by cases hz),fun h=>absurd rfl h⟩
 ·simp[Value.cells]at e1
  obtain⟨rfl,rfl,rfl⟩:=e1;unfold maxLen at hm;rw[c105]at hel e2;have each:∀i,i<len->∃s:Nat × Nat × Nat × Int,(s.1<=255/\s.2.1<=255/\s.2.2.1<=255/\-128<=s.2.2.2/\s.2.2.2<=127)/\w.cell? ((a.add (i*4)).add 0)=some (.int .u8 s.1)/\w.cell? ((a.add (i*4)).add 1)=some (.int .u8 s.2.1)/\w.cell? ((a.add (i*4)).add 2)=some (.int .u8 s.2.2.1)/\w.cell? ((a.add (i*4)).add 3)=some (.int .i8 s.2.2.2):=by
   intro i hi;have h1:=hel i hi;rw[xga oM,Option.bind_eq_some_iff]at h1;obtain⟨cs,hcs,hy⟩:=h1;obtain⟨p,q,r,z,rfl,g1,g2,g3,g4,g5⟩:=zI6 hy;unfold World.cells? at hcs;rw[if_pos (Nat.zero_le _)]at hcs;refine⟨(p,q,r,z),⟨g1,g2,g3,g4,g5⟩,?_,?_,?_,?_⟩
   ·simpa using mapM_some_get hcs 0 0 sI
   ·simpa using mapM_some_get hcs 1 1 sI
   ·simpa using mapM_some_get hcs 2 2 sI
   ·simpa using mapM_some_get hcs 3 3 sI
  obtain⟨f,hf'⟩:∃f:Nat->Nat × Nat × Nat × Int,∀i,i<len->((f i).1<=255/\(f i).2.1<=255/\(f i).2.2.1<=255/\-128<=(f i).2.2.2/\(f i).2.2.2<=127)/\w.cell? ((a.add (i*4)).add 0)=some (.int .u8 (f i).1)/\w.cell? ((a.add (i*4)).add 1)=some (.int .u8 (f i).2.1)/\w.cell? ((a.add (i*4)).add 2)=some (.int .u8 (f i).2.2.1)/\w.cell? ((a.add (i*4)).add 3)=some (.int .i8 (f i).2.2.2):=by
   refine⟨fun i=>if h:i<len then(each i h).choose else(0,0,0,0),fun i hi=>?_⟩;simp only[dif_pos hi];exact(each i hi).choose_spec
  refine⟨(List.range len).map f,some a,len,cap,rfl,by simp,hl,by omega,fun s hs=>?_,fun hne=>?_⟩
  ·obtain⟨i,hi,rfl⟩:=List.mem_map.1 hs
   exact(hf' i (List.mem_range.1 hi)).1
  ·have hpos:0<len:=by
    rcases Nat.eq_zero_or_pos len with h0|h0
    ·rw[h0]at hne;exact absurd rfl hne
    ·exact h0
   obtain⟨b,off,spot⟩:=a;have hspot:spot=none:=by simpa[Addr.add]using World.cell?_spot (hf' 0 hpos).2.1
   subst hspot;refine⟨b,off,rfl,?_,fun k s hk=>?_⟩
   ·refine hlt (.cell b off) ?_
    simp only[Prod.mk.injEq]at e2;rw[e2.2];exact List.mem_append_left _ (MemPlace.mem_row.2 ⟨0,by omega,rfl⟩)
   ·obtain⟨h1,h2⟩:=xge.1 hk
    simp at h1 h2;subst h2;obtain⟨-,g1,g2,g3,g4⟩:=hf' k h1;rw[Go.WideShapes.add_plain,Go.WideShapes.add_plain]at g1 g2 g3 g4;exact⟨g1,g2,g3,g4⟩
end Go.Proofs.YtgnmdddaiefooaaGreat
