/- Appending a whole slice of integers. torsionref12: the work of a run, as a value. torsionref12: Start, Floor. torsionref12.Reduce. Lists of vectors: reading, own lists, append. Plain: the determinant and the pivots. -/
import Derived.Test.YtgnmdddaiefooaaGreatF11
import Derived.Test.YtgnmdddaiefooaaGreatF14
import Derived.Test.YtgnmdddaiefooaaGreatF20
import Derived.Test.YtgnmdddaiefooaaGreatF21
import Derived.Test.YtgnmdddaiefooaaGreatF30
import Derived.Test.YtgnmdddaiefooaaGreatF32
import Derived.Test.YtgnmdddaiefooaaGreatF33
import Derived.Test.YtgnmdddaiefooaaGreatF35
import Derived.Test.YtgnmdddaiefooaaGreatF36
import Derived.Test.YtgnmdddaiefooaaGreatF38
set_option linter.unusedVariables false
set_option linter.unusedSimpArgs false
set_option linter.unusedSectionVars false
set_option maxHeartbeats 16000000
set_option maxRecDepth 100000
namespace Go.Proofs.YtgnmdddaiefooaaGreat
open Go.RowKit
def ZsV(w:World)(v:Value)(ys:List Int):Prop:=
 ∃ao n c,v= .slice ao n c/\ys.length=n/\(ys≠ []->∃b off cells,ao=some ⟨b,off,none⟩/\cells.length=n*2/\zAn w cells ys/\∀j u,cells[j]?=some u->w.cell? ⟨b,off+j,none⟩=some u)
theorem jG.zs{w:World}{v:Value}{ys:List Int}(h:jG w v ys):ZsV w v ys:=by
 obtain⟨ao,n,c,rfl,h2,-,-,h5⟩:=h;refine⟨ao,n,c,rfl,h2,fun hne=>?_⟩;obtain⟨b,rfl,cs,e1,e2⟩:=h5 hne;have hlen:n*2<=cs.size:=by
  have h0:0<ys.length:=List.length_pos_iff.2 hne;obtain⟨_,_,_,_,-,q,-⟩:=e2 (ys.length-1) _ (xga oM);have:=(Array.getElem?_eq_some_iff.1 q).1;omega
 refine⟨b,0,cs.toList.take (n*2),rfl,by simp;omega,fun k z hk=>?_,fun j u hj=>?_⟩
 ·obtain⟨s,a,l,c',q1,q2,q3⟩:=e2 k z hk
  have hk':=(xge.1 hk).1;exact⟨s,a,l,c',by rw[List.getElem?_take_of_lt oM];simpa using q1,by rw[List.getElem?_take_of_lt oM];simpa using q2,q3⟩
 ·rw[List.getElem?_take]at hj
  split at hj
  ·rw[Nat.zero_add,cell_of_row w b j cs tI _ e1]
   simpa using hj
  ·cases hj
theorem ZsV.below{w w':World}{v:Value}{ys:List Int}(h:ZsV w v ys)(hb:Below w.heap.size w w'):ZsV w' v ys:=by
 obtain⟨ao,n,c,rfl,h2,h5⟩:=h;refine⟨ao,n,c,rfl,h2,fun hne=>?_⟩;obtain⟨b,off,cells,e1,e2,e3,e4⟩:=h5 hne;refine⟨b,off,cells,e1,e2,fun k z hk=>?_,fun j u hj=>?_⟩
 ·obtain⟨s,a,l,c',q1,q2,q3⟩:=e3 k z hk
  exact⟨s,a,l,c',q1,q2,q3.ext (lx hb)⟩
 ·have:=e4 j u hj
  exact(hb.cell (p:=⟨b,off+j,none⟩) (World.block_lt_of_cell? w _ this)).trans this
theorem zAn.one{w:World}{cells:List Value}{ys:List Int}(h:zAn w cells ys)(hl:cells.length=ys.length*2):∀u∈cells,u.oneCell'=true:=by
 intro u hu;obtain⟨j,hj⟩:=List.getElem?_of_mem hu;have hlt:=(xge.1 hj).1;obtain⟨s,a,l,c,q1,q2,-⟩:=h (j/2) _ (xga oM);rcases Nat.mod_two_eq_zero_or_one j with e|e
 ·rw[show j/2*2=j by omega,hj]at q1
  injection q1 with q1
  subst q1;rfl
 ·rw[show j/2*2+1=j by omega,hj]at q2
  injection q2 with q2
  subst q2;rfl
theorem zAn.append{w:World}{c1 c2:List Value}{zs ys:List Int}(h1:zAn w c1 zs)(h2:zAn w c2 ys)(hl:c1.length=zs.length*2):zAn w (c1++c2) (zs++ys):=by
 intro k z hk;rcases Nat.lt_or_ge k zs.length with hlt|hge
 ·rw[List.getElem?_append_left hlt]at hk
  obtain⟨s,a,l,c,q1,q2,q3⟩:=h1 k z hk;exact⟨s,a,l,c,by rw[List.getElem?_append_left oM];exact q1,by rw[List.getElem?_append_left oM];exact q2,q3⟩
 ·rw[List.getElem?_append_right hge]at hk
  obtain⟨s,a,l,c,q1,q2,q3⟩:=h2 _ z hk;refine⟨s,a,l,c,?_,?_,q3⟩
  ·rw[List.getElem?_append_right oM,hl,show k*2-zs.length*2=(k-zs.length)*2 by omega];exact q1
  ·rw[List.getElem?_append_right oM,hl,show k*2+1-zs.length*2=(k-zs.length)*2+1 by omega];exact q2
theorem zAn.ext{w w':World}{c:List Value}{zs:List Int}(h:zAn w c zs)(x:yP w w'):zAn w' c zs:=fun k z hk=>by
 obtain⟨s,a,l,c,q1,q2,q3⟩:=h k z hk;exact⟨s,a,l,c,q1,q2,q3.ext x⟩
theorem zBS(P:Program)(w:World)(t ty e:TypeId)(i:TypeInfo)(ht:P.underlying t=some (.slice e))(hi:P.info? e=some i)
  (g:Option Addr) (n cap:Nat) (hg:g=none->n=0/\cap=0) (hn:n<=cap) (ao:Option Addr) (c:Nat):
  (Builtin.append_ #[t,t] ty #[.slice g n cap,.slice ao 0 c]).run P w= .ok (.slice g n cap) w:=by
 cases g with
 |none=>
  obtain⟨rfl,rfl⟩:=hg rfl;cases ao<;>simp[Builtin.append_,run_underlying ht,sizeOf,typeInfo,hi,Builtin.lenOf,Builtin.firstCells,loadCells,loadCellsFrom]
 |some g=>
  cases ao<;>simp[Builtin.append_,run_underlying ht,sizeOf,typeInfo,hi,Builtin.lenOf,Builtin.firstCells,loadCells,loadCellsFrom,storeCells,hn]
theorem wpZ{w:World}{o:Oper}{a:Act}{K:Act->World->Prop}{Q:Exit->Act->World->Prop}(t:TypeId)(ht:Tryz.prog.underlying t=some (.slice tI))(s x:Operand)
  (ho:o.op= .call {callee:=.builtin .append,args:=#[s,x],argTypes:=#[t,t]})
  (base:Nat) (v:Value) (zs:List Int) (hs:a.eval s=v) (hown:zCQ w base v zs) (xv:Value) (ys:List Int) (hx:a.eval x=xv) (hy:ZsV w xv ys)
  (hlen:zs.length+ys.length<=1099511627776) (hbase:base<=w.heap.size)
  (hK:∀v' w',zCQ w' base v' (zs++ys)->w.grownBy w' v.ownBlock->yP w w'->(v'.ownBlock=v.ownBlock∨∃g,v'.ownBlock=some g/\w.heap.size<=g)->K (a.put o.dst v') w'):Oper.wp Tryz.prog o a w K Q:=by
 obtain⟨i0,hi,hz0,hz1,hz2⟩:=info_parts Tryz.infoI;obtain⟨ao,n,c,rfl,hn,hc⟩:=hy;by_cases h0:ys= []
 ·subst h0
  obtain rfl:0=n:=by simpa using hn
  have hr:(Builtin.append_ #[t,t] o.type #[v,.slice ao 0 c]).run Tryz.prog w= .ok v w:=by
   obtain⟨cells,h1,-⟩:=hown;rcases h1.2 with⟨rfl,h0⟩|⟨g,cap,cur,rfl,e2,e3,e4,-⟩
   ·exact zBS Tryz.prog w t o.type tI i0 ht hi none 0 0 (fun _=>⟨rfl,rfl⟩) (xgf _) ao c
   ·exact zBS Tryz.prog w t o.type tI i0 ht hi _ _ cap (fun e=>by cases e) e4 ao c
  have h:=hK v w (by rwa[List.append_nil]) ⟨rfl,rfl,rfl,xgf _,fun _ _ _=>rfl⟩ (lx (Below.refl _ _)) (.inl rfl);unfold Oper.wp execOp;simp only[ho,resolve,invoke,builtin,Sem.run_bind,Sem.run_pure,Result.andThen_ok,List.map_toArray,List.map_cons,List.map_nil,hs,hx,hr];exact h
 ·obtain⟨b,off,news,rfl,hnl,hci,hcell⟩:=hc h0
  have hpos:0<ys.length:=List.length_pos_iff.2 h0;obtain⟨cells,h1,h2⟩:=hown;have hcl:cells.length=zs.length*2:=h1.1;have hnews:∀(j:Nat) (u:Value),news[j]?=some u->w.cell? ((⟨b,off,none⟩:Addr).add j)=some u:=fun j u hj=>by
   rw[Addr.add_lit];exact hcell j u hj
  have hone:=hci.one (by rw[hnl,hn]);have h63:zs.length+n<=maxLen:=by simp[maxLen];omega
  obtain⟨v',w',hr,k1,k2,-⟩:=run_append_own (P:=Tryz.prog) w base t o.type tI i0 _ 2 32 ht hi hz0 hz1 hz2 rfl oM v zs.length cells h1 ⟨b,off,none⟩ n c news hnl hnews hone h63 oM hbase;have h3:v'.ownBlock=v.ownBlock∨∃g,v'.ownBlock=some g/\w.heap.size<=g:=by
   rcases h1.2 with⟨rfl,h0⟩|⟨g,cap,cur,rfl,e2,e3,e4,e5,e6,e7⟩
   ·have hr2:=run_append_nil (P:=Tryz.prog) w t o.type tI i0 _ ht hi hz0 ⟨b,off,none⟩ n c news (by rw[hz1];exact hnl) hnews oM oM (by rw[hz2];omega)
    rw[hr2]at hr;injection hr with hv _
    exact .inr ⟨_,by rw[<-hv];rfl,xgf _⟩
   ·by_cases hroom:zs.length+n<=cap
    ·have hr2:=run_append_room (P:=Tryz.prog) w t o.type tI i0 ht hi g zs.length cap cur e3 ⟨b,off,none⟩ n c news (by rw[hz1];exact hnl) hnews hone hroom (by rw[hz1,e6,hnl];omega)
     rw[hr2]at hr;injection hr with hv _
     exact .inl (by rw[<-hv];rfl)
    ·have hr2:=run_append_grow (P:=Tryz.prog) w t o.type tI i0 _ ht hi hz0 ⟨g,0,none⟩ zs.length cap cells (by rw[hz1];exact hcl) (h1.cells (g:=g) rfl) ⟨b,off,none⟩ n c news (by rw[hz1];exact hnl) hnews oM oM (growslice_fits oM (by rw[hz2];omega))
     rw[hr2]at hr;injection hr with hv _
     exact .inr ⟨_,by rw[<-hv];rfl,xgf _⟩
  have hxg:=zAS h1 dE k2;have hvo:zCQ w' base v' (zs++ys):=⟨cells++news,by rw[List.length_append,hn];exact k1,(show zAn w cells zs from h2).ext hxg|>.append (hci.ext hxg) hcl⟩;have h:=hK v' w' hvo k2 hxg h3;unfold Oper.wp execOp;simp only[ho,resolve,invoke,builtin,Sem.run_bind,Sem.run_pure,Result.andThen_ok,List.map_toArray,List.map_cons,List.map_nil,hs,hx,hr];exact h
theorem zNX{w:World}{ops:Array Oper}{rest:List Oper}{o:Oper}{a:Act}{Q:Exit->Act->World->Prop}(t:TypeId)(ht:Tryz.prog.underlying t=some (.slice tI))(hgd:o.guard=none)(s x:Operand)
  (ho:o.op= .call {callee:=.builtin .append,args:=#[s,x],argTypes:=#[t,t]})
  (base:Nat) (v:Value) (zs:List Int) (hs:a.eval s=v) (hown:zCQ w base v zs) (xv:Value) (ys:List Int) (hx:a.eval x=xv) (hy:ZsV w xv ys)
  (hlen:zs.length+ys.length<=1099511627776) (hbase:base<=w.heap.size)
  (h:∀v' w',zCQ w' base v' (zs++ys)->w.grownBy w' v.ownBlock->yP w w'->(v'.ownBlock=v.ownBlock∨∃g,v'.ownBlock=some g/\w.heap.size<=g)->wpList Tryz.prog ops Q rest (a.put o.dst v') w'):wpList Tryz.prog ops Q (o::rest) a w:=
 wpList_plain hgd fun _ hK=>wpZ t ht s x ho base v zs hs hown xv ys hx hy hlen hbase fun v' w' h1 h2 h3 h4=>hK _ _ (h v' w' h1 h2 h3 h4)
abbrev tWk:TypeId:=102
def upR(F G:Nat->Nat->Int)(i c:Nat):Nat->Nat->Int:=fun a b=>if a=i/\b<c then G a b else F a b
def upC(F G:Nat->Nat->Int)(j r:Nat):Nat->Nat->Int:=fun a b=>if b=j/\a<r then G a b else F a b
def zN5(F:Nat->Nat->Int)(i c:Nat)(z:Int):Nat->Nat->Int:=fun a b=>if a=i/\b=c then z else F a b
section
variable {w:World} {A:Value} {g n cap R C:Nat} {bs:List Nat} {F:Nat->Nat->Int}
theorem Wri.congr{G:Nat->Nat->Int}(h:Wri w A R C bs F)(e:∀a,a<R->∀b,b<C->F a b=G a b):Wri w A R C bs G:=by
 unfold Wri at h ⊢
 rwa[<-zT e]
theorem Wri.base(h:Wri w A R C bs F)(hR:0<R):∃g cap,A= .slice (some ⟨g,0,none⟩) R cap:=by
 obtain⟨ao,n,cap,rfl,-⟩:=id (zK.rows h);obtain⟨g,b,rfl,-,-,-,-,e⟩:=zK.at_ h (i:=0) (by rw[h.len];exact hR);rw[h.len]at e;subst e;exact⟨g,cap,rfl⟩
end
structure K9(w:World)(bw:Nat)(AM AU AV:Value)(R C:Nat)(bm bu bv:List Nat)(S T V:Nat->Nat->Int):Prop where
 blk:Blk w bw tWk #[.int .i64 R,.int .i64 C,AM,.int .i64 R,.int .i64 R,AU,.int .i64 R,.int .i64 R,AV]
 m:Wri w AM R C bm S
 u:Wri w AU R R bu T
 v:Wri w AV R R bv V
 mu:Ap AM bm AU bu
 mv:Ap AM bm AV bv
 uv:Ap AU bu AV bv
section
variable {w w':World} {bw:Nat} {AM AU AV:Value} {R C:Nat} {bm bu bv:List Nat} {S T V:Nat->Nat->Int}
theorem K9.below(h:K9 w bw AM AU AV R C bm bu bv S T V)(hb:Below w.heap.size w w'):K9 w' bw AM AU AV R C bm bu bv S T V:=⟨h.blk.below hb,h.m.below hb,h.u.below hb,h.v.below hb,h.mu,h.mv,h.uv⟩
theorem K9.nm(h:K9 w bw AM AU AV R C bm bu bv S T V):¬ Zn AM bm bw:=h.m.nzb h.blk dE dE
theorem K9.congr{S' T' V':Nat->Nat->Int}(h:K9 w bw AM AU AV R C bm bu bv S T V)(e1:∀a,a<R->∀b,b<C->S a b=S' a b)(e2:∀a,a<R->∀b,b<R->T a b=T' a b)(e3:∀a,a<R->∀b,b<R->V a b=V' a b):K9 w bw AM AU AV R C bm bu bv S' T' V':=
 ⟨h.blk,h.m.congr e1,h.u.congr e2,h.v.congr e3,h.mu,h.mv,h.uv⟩
def Z3(AM AU AV:Value)(bm bu bv:List Nat)(b:Nat):Prop:=Zn AM bm b∨Zn AU bu b∨Zn AV bv b
theorem K9.zlt(h:K9 w bw AM AU AV R C bm bu bv S T V){b:Nat}(hb:Z3 AM AU AV bm bu bv b):b<w.heap.size:=by
 rcases hb with hb|hb|hb
 ·exact h.m.zlt hb
 ·exact h.u.zlt hb
 ·exact h.v.zlt hb
end
def KW(Z:Nat->Prop)(w:World)(bw R C:Nat)(x:Bst):Prop:=∃AM AU AV bm bu bv,K9 w bw AM AU AV R C bm bu bv x.s x.t (fun a b=>x.i b a)/\∀b,Z3 AM AU AV bm bu bv b->Z b
theorem KW.below{Z:Nat->Prop}{w w':World}{bw R C:Nat}{x:Bst}(h:KW Z w bw R C x)(hb:Below w.heap.size w w'):KW Z w' bw R C x:=by
 obtain⟨a,b,c,d,e,f,h1,h2⟩:=h;exact⟨a,b,c,d,e,f,h1.below hb,h2⟩
structure zIG(n0 R C:Nat)(S T V:Nat->Nat->Int)(w:World)(v:Value):Prop where
 ex:∃so sc uo uc vo vc bs bu bv,v= .agg #[.int .i64 R,.int .i64 C,.slice so R sc,.int .i64 R,.int .i64 R,.slice uo R uc,.int .i64 R,.int .i64 R,.slice vo R vc]∧
  Wri w (.slice so R sc) R C bs S/\Wri w (.slice uo R uc) R R bu T/\Wri w (.slice vo R vc) R R bv V/\(∀b,Z3 (.slice so R sc) (.slice uo R uc) (.slice vo R vc) bs bu bv b->n0<=b)∧
  Ap (.slice so R sc) bs (.slice uo R uc) bu/\Ap (.slice so R sc) bs (.slice vo R vc) bv/\Ap (.slice uo R uc) bu (.slice vo R vc) bv
theorem RG.three{W:World}{T0:Array Value}{vs:List VS}{L:Array Bool}{T:Array Value}{w:World}{k1 k2 k3 s1 s2 s3 R C:Nat}{F1 F2 F3:Nat->Nat->Int}
  (h:RG W T0 vs [⟨k1,s1,R,C,F1⟩,⟨k2,s2,R,R,F2⟩,⟨k3,s3,R,R,F3⟩] L T w) (o1:k1<k2) (o2:k2<k3) (l1:L[k1]?=some true) (l2:L[k2]?=some true) (l3:L[k3]?=some true):
  ∃so sc uo uc vo vc,T[s1]?=some (.agg #[.int .i64 R,.int .i64 C,.slice so R sc])/\T[s2]?=some (.agg #[.int .i64 R,.int .i64 R,.slice uo R uc])/\T[s3]?=some (.agg #[.int .i64 R,.int .i64 R,.slice vo R vc])∧
   zIG W.heap.size R C F1 F2 F3 w (.agg #[.int .i64 R,.int .i64 C,.slice so R sc,.int .i64 R,.int .i64 R,.slice uo R uc,.int .i64 R,.int .i64 R,.slice vo R vc]):=by
 obtain⟨bot,top,g1,g2⟩:=h.gh;have M1:(⟨k1,s1,R,C,F1⟩:MS)∈ [(⟨k1,s1,R,C,F1⟩:MS),⟨k2,s2,R,R,F2⟩,⟨k3,s3,R,R,F3⟩]:=by simp
 have M2:(⟨k2,s2,R,R,F2⟩:MS)∈ [(⟨k1,s1,R,C,F1⟩:MS),⟨k2,s2,R,R,F2⟩,⟨k3,s3,R,R,F3⟩]:=by simp
 have M3:(⟨k3,s3,R,R,F3⟩:MS)∈ [(⟨k1,s1,R,C,F1⟩:MS),⟨k2,s2,R,R,F2⟩,⟨k3,s3,R,R,F3⟩]:=by simp
 obtain⟨a1,a2,_,a3,so,sc,bS,rfl,a5,a6⟩:=g1 _ M1 l1;obtain⟨b1,b2,_,b3,uo,uc,bU,rfl,b5,b6⟩:=g1 _ M2 l2;obtain⟨c1,c2,_,c3,vo,vc,bV,rfl,c5,c6⟩:=g1 _ M3 l3;have r12:=g2 _ M1 _ M2 o1 l1 l2;have r13:=g2 _ M1 _ M3 (by dsimp only;omega) l1 l3;have r23:=g2 _ M2 _ M3 (by dsimp only;omega) l2 l3;refine⟨so,sc,uo,uc,vo,vc,a3,b3,c3,⟨so,sc,uo,uc,vo,vc,bS,bU,bV,rfl,a5,b5,c5,?_,zBV a6 b6 r12,zBV a6 c6 r13,zBV b6 c6 r23⟩⟩;rintro b (hb|hb|hb)
 ·exact Nat.le_trans a1 (a6 b hb).1
 ·exact Nat.le_trans b1 (b6 b hb).1
 ·exact Nat.le_trans c1 (c6 b hb).1
structure zNk(n0 R C:Nat)(S T V:Nat->Nat->Int)(w:World)(v:Value):Prop where
 ex:∃bw AM AU AV bm bu bv,v= .pointer (some ⟨bw,0,none⟩)/\n0<=bw/\K9 w bw AM AU AV R C bm bu bv S T V/\∀b,Z3 AM AU AV bm bu bv b->n0<=b
theorem zIG.new{n0 R C:Nat}{S T V:Nat->Nat->Int}{w:World}{cs:Array Value}(h:zIG n0 R C S T V w (.agg cs))(hn:n0<=w.heap.size):zNk n0 R C S T V (w.alloc (.cells cs tWk)) (.pointer (some ⟨w.heap.size,0,none⟩)):=by
 obtain⟨so,sc,uo,uc,vo,vc,bs,bu,bv,e,h2,h3,h4,h5,h6,h7,h8⟩:=h.ex;injection e with e
 subst e;have hb:Below w.heap.size w (w.alloc (.cells #[.int .i64 R,.int .i64 C,.slice so R sc,.int .i64 R,.int .i64 R,.slice uo R uc,.int .i64 R,.int .i64 R,.slice vo R vc] tWk)):=(Below.refl _ _).alloc (xgf _) _;exact⟨_,_,_,_,_,_,_,rfl,hn,⟨Blk.new _ _ _,h2.below hb,h3.below hb,h4.below hb,h6,h7,h8⟩,h5⟩
theorem zCQ.row{w:World}{base:Nat}{v:Value}{zs:List Int}{g:Nat}(h:zCQ w base v zs)(hg:v.ownBlock=some g):
  ∃cap,v= .slice (some ⟨g,0,none⟩) zs.length cap/\zs.length<=cap/\cap<=9223372036854775807/\base<=g/\zZ w g zs:=by
 obtain⟨cells,⟨h0,h1⟩,h2⟩:=h;rcases h1 with⟨rfl,hn⟩|⟨g',cap,cur,rfl,e1,e2,e3,e4,e5,e6⟩
 ·cases hg
 ·injection hg with hg
  subst hg;refine⟨cap,rfl,e3,e4,e1,cur,e2,fun k z hk=>?_⟩;obtain⟨s,a,l,c,q1,q2,q3⟩:=h2 k z hk;have hk':k<zs.length:=(xge.1 hk).1;rw[<-e6,List.getElem?_take_of_lt oM]at q1 q2;exact⟨s,a,l,c,by simpa using q1,by simpa using q2,q3⟩
theorem zJi(w:World){base:Nat}(hb:base<=w.heap.size):zCQ (w.alloc (.cells #[] tI)) base (.slice (some ⟨w.heap.size,0,none⟩) 0 0) []:=
 ⟨[],World.ownsRow_made w #[] 0 hb (Nat.zero_le _) rfl,fun k z h=>by simp at h⟩
theorem zCQ.grown{w w':World}{base:Nat}{v:Value}{zs:List Int}{row:Option Nat}(h:zCQ w base v zs)(hg:w.grownBy w' row)(hne:∀g,v.ownBlock=some g->some g≠row)(hx:yP w w'):zCQ w' base v zs:=by
 obtain⟨cells,h1,h2⟩:=h;exact⟨cells,h1.kept hg (by cases hv:v.ownBlock with
  |none=>exact .inl rfl
  |some g=>exact .inr (hne g hv)),zAn.ext h2 hx⟩
abbrev tVc:TypeId:=38
theorem Tryz.infoVc:(Tryz.prog.info? tVc).map (fun i=>(i.zero,i.size,i.bytes))=some (some (.slice none 0 0),1,24):=by kernel_rfl
theorem jG.old{w w':World}{v:Value}{zs:List Int}(h:jG w v zs)(e:∀b,zZ w b zs->w'.heap[b]?=w.heap[b]?)(x:yP w w'):jG w' v zs:=by
 obtain⟨ao,n,cap,h1,h2,h3,h4,h5⟩:=h;exact⟨ao,n,cap,h1,h2,h3,h4,fun hn=>(h5 hn).elim fun b h=>⟨b,h.1,h.2.old (e b h.2) x⟩⟩
def VsV(w:World)(v:Value)(M:List (List Int)):Prop:=
 ∃ao n cap,v= .slice ao n cap/\M.length=n/\n<=cap/\cap<=9223372036854775807/\(M≠ []->∃(b:Nat) (cs:Array Value),ao=some ⟨b,0,none⟩/\w.heap[b]?=some (.cells cs tVc (0,0))/\∀(k:Nat) (zs:List Int),M[k]?=some zs->∃rv,cs[k]?=some rv/\jG w rv zs)
theorem VsV.below{w w':World}{v:Value}{M:List (List Int)}(h:VsV w v M)(hb:Below w.heap.size w w'):VsV w' v M:=by
 obtain⟨ao,n,cap,h1,h2,h3,h4,h5⟩:=h;refine⟨ao,n,cap,h1,h2,h3,h4,fun hn=>?_⟩;obtain⟨b,cs,e1,e2,e3⟩:=h5 hn;refine⟨b,cs,e1,(hb.block _ (Array.getElem?_eq_some_iff.1 e2).1).trans e2,fun k zs hk=>?_⟩;obtain⟨rv,e4,e5⟩:=e3 k zs hk;exact⟨rv,e4,e5.below hb⟩
theorem VsV.row{w:World}{ao:Option Addr}{n cap:Nat}{M:List (List Int)}(h:VsV w (.slice ao n cap) M){k:Nat}(hk:k<M.length):
  ∃b ra rn rc zs,ao=some ⟨b,0,none⟩/\b<w.heap.size/\M[k]?=some zs/\w.cell? ⟨b,k,none⟩=some (.slice ra rn rc)/\jG w (.slice ra rn rc) zs:=by
 obtain⟨ao',n',cap',h1,h2,h3,h4,h5⟩:=h;injection h1 with e1 e2 e3
 subst e1;obtain⟨b,cs,e,hr,hc⟩:=h5 (by rintro rfl;simp at hk);obtain⟨rv,c1,c2⟩:=hc k _ (xga hk);obtain⟨ra,rn,rc,rfl,c3⟩:=id c2;exact⟨b,ra,rn,rc,_,e,(Array.getElem?_eq_some_iff.1 hr).1,xga hk,(cell_of_row w b k cs _ _ hr).trans c1,c2⟩
def VsO(w:World)(base:Nat)(v:Value)(M:List (List Int)):Prop:=
 ∃rvs,w.ownsRow base tVc 1 v M.length rvs/\rvs.length=M.length/\∀(k:Nat) (rv:Value) (zs:List Int),rvs[k]?=some rv->M[k]?=some zs->jG w rv zs
theorem VsO.below{w w':World}{base:Nat}{v:Value}{M:List (List Int)}(h:VsO w base v M)(hb:Below w.heap.size w w'):VsO w' base v M:=by
 obtain⟨rvs,h1,h2,h3⟩:=h;exact⟨rvs,h1.kept (row:=none) ⟨hb.os,hb.tape,hb.output,hb.size,fun k hk _=>hb.block k hk⟩ (by cases hv:v.ownBlock<;>simp),h2,fun k rv zs e1 e2=>(h3 k rv zs e1 e2).below hb⟩
theorem VsO.made(w:World){base:Nat}(hb:base<=w.heap.size):VsO (w.alloc (.cells #[] tVc)) base (.slice (some ⟨w.heap.size,0,none⟩) 0 0) []:=
 ⟨[],World.ownsRow_made w #[] 0 hb (Nat.zero_le _) rfl,rfl,fun k _ _ h=>by simp at h⟩
theorem VsO.own{w:World}{base:Nat}{v:Value}{M:List (List Int)}(h:VsO w base v M):∀g,v.ownBlock=some g->base<=g/\g<w.heap.size:=by
 obtain⟨rvs,h1,-⟩:=h;exact World.ownsRow.lt h1
theorem VsO.mono{w:World}{base base':Nat}{v:Value}{M:List (List Int)}(h:VsO w base v M)(hb:base'<=base):VsO w base' v M:=by
 obtain⟨rvs,h1,h2⟩:=h;refine⟨rvs,⟨h1.1,?_⟩,h2⟩;rcases h1.2 with h3|⟨g,cap,cur,rfl,k1,k2⟩
 ·exact .inl h3
 ·exact .inr ⟨g,cap,cur,rfl,by omega,k2⟩
theorem VsO.shape{w:World}{base:Nat}{v:Value}{M:List (List Int)}(h:VsO w base v M):∃o c,v= .slice o M.length c:=by
 obtain⟨rvs,h1,-⟩:=h;rcases h1.2 with⟨rfl,h0⟩|⟨g,cap,cur,rfl,-⟩
 ·exact⟨none,0,by rw[h0]⟩
 ·exact⟨_,_,rfl⟩
theorem VsO.vs{w:World}{base:Nat}{v:Value}{M:List (List Int)}(h:VsO w base v M):VsV w v M:=by
 obtain⟨rvs,h1,h2,h3⟩:=h;rcases h1.2 with⟨rfl,h0⟩|⟨g,cap,cur,rfl,e2,e3,e4,e5,e6,e7⟩
 ·exact⟨none,0,0,rfl,h0,xgf _,by omega,fun hn=>absurd (List.eq_nil_of_length_eq_zero h0) hn⟩
 ·refine⟨some ⟨g,0,none⟩,M.length,cap,rfl,rfl,e4,e5,fun _=>⟨g,cur,rfl,e3,fun k zs hk=>?_⟩⟩
  have hkM:=(xge.1 hk).1;obtain⟨rv,hr⟩:∃rv,rvs[k]?=some rv:=⟨_,xga oM⟩;refine⟨rv,?_,h3 k _ zs hr hk⟩;rw[<-e7,List.getElem?_take_of_lt oM]at hr;simpa using hr
theorem zKW{w:World}{base:Nat}{v:Value}{n:Nat}{xs:List Value}{b:Nat}{r:List Int}(h:w.ownsRow base tVc 1 v n xs)(hr:zZ w b r):some b≠v.ownBlock:=by
 intro e;rcases h.2 with⟨rfl,-⟩|⟨g,cap,cur,rfl,-,hh,-⟩
 ·cases e
 ·simp only[Value.ownBlock,Option.some.injEq]at e
  subst e;obtain⟨cs,h1,-⟩:=hr;rw[hh]at h1;injection h1 with h1
  injection h1 with _ ht
  exact absurd ht dE
theorem zMO{w:World}{ops:Array Oper}{rest:List Oper}{o:Oper}{a:Act}{Q:Exit->Act->World->Prop}(hgd:o.guard=none)(s x:Operand)
  (ho:o.op= .call {callee:=.builtin .append,args:=#[s,x],argTypes:=#[76,76]})
  (base:Nat) (v:Value) (M:List (List Int)) (hs:a.eval s=v) (hown:VsO w base v M) (b c:Nat) (rv:Value) (r:List Int) (hx:a.eval x= .slice (some ⟨b,0,none⟩) 1 c)
  (hb:Blk w b tVc #[rv]) (hr:jG w rv r)
  (hlen:M.length+1<=1099511627776) (hbase:base<=w.heap.size)
  (h:∀v' w',VsO w' base v' (M++ [r])->w.grownBy w' v.ownBlock->yP w w'->wpList Tryz.prog ops Q rest (a.put o.dst v') w'):wpList Tryz.prog ops Q (o::rest) a w:=by
 obtain⟨i0,hi,hz0,hz1,hz2⟩:=info_parts Tryz.infoVc;obtain⟨rvs,h1,h2,h3⟩:=hown;have c0:=hb.cell 0;refine wpList_append_own w hgd s x 76 ho base tVc i0 _ 1 24 Tryz.underlying76 hi hz0 hz1 hz2 rfl oM v M.length _ hs h1 ⟨b,0,none⟩ 1 c [rv] hx rfl ?_ ?_ (by simp[maxLen];omega) oM hbase ?_
 ·intro j u hj
  rw[Addr.add_lit];match j with
  |0=>simp at hj;subst hj;exact c0
  |j+1=>simp at hj
 ·intro u hu
  simp at hu;subst hu;obtain⟨_,_,_,rfl,-⟩:=hr;rfl
 ·intro v' w' k1 k2 _
  have hx:=zAS h1 dE k2;have hkeep:∀u zs,jG w u zs->jG w' u zs:=fun u zs hu=>hu.old (fun b hq=>k2.block b hq.lt (zKW h1 hq)) hx
  refine h v' w' ⟨rvs++ [rv],?_,by simp[h2],?_⟩ k2 hx
  ·simpa using k1
  ·intro k u zs hg hq
   rcases Nat.lt_or_ge k rvs.length with hlt|hge
   ·rw[List.getElem?_append_left hlt]at hg
    rw[List.getElem?_append_left oM]at hq;exact hkeep _ _ (h3 k u zs hg hq)
   ·rw[List.getElem?_append_right hge]at hg
    rw[List.getElem?_append_right oM,<-h2]at hq;have hk0:k-rvs.length=0:=by
     have:=(xge.1 hg).1;simp at this;omega
    rw[hk0]at hg hq;simp at hg hq;subst hg;subst hq;exact hkeep _ _ hr
theorem zHp(v:Value)(R C:Nat)(M:List (List Int))(w:World)(h:yG w v R C M)(hF:yM R C M)(hR:R<=1000000):
  Calls Tryz.prog 57 #[v] w fun e w'=>∃v,e= .returned v/\VsO w' w.heap.size v M/\Below w.heap.size w w':=by
 obtain⟨A,rfl,h⟩:=h;obtain⟨ao,n,cap,rfl,e2,e3,e4,-⟩:=id h;obtain rfl:R=n:=by rw[<-e2,hF.1]
 have HX:=xgw e2;clear hF e2;go_enter Tryz.func57,Tryz.ntmps57;go_upto_region 1 with(fail)
 refine zB ?_;intro W0 hW0;obtain⟨hB0,bx1,hs0⟩:=zM hW0;go_upto_region 3 with(fail)
 refine zB ?_;intro W1 hW1;have hV1:VsO W1 (w.heap.size+1) (.slice (some ⟨W0.heap.size,0,none⟩) 0 0) []:=by rw[hW1.out];exact VsO.made _ oM
 have hB1:Below w.heap.size w W1:=by rw[hW1.out];exact hB0.alloc oM _
 have bx1:Blk W1 w.heap.size 28 #[.int .i64 R,.int .i64 C,.slice ao R cap]:=bx1.below (by rw[hW1.out];exact(Below.refl _ _).alloc (xgf _) _);clear hW1 hW0;go_wp2;go_loopw [3,4] (fun vv iv wr=>∃i:Nat,i<=R/\iv= .int .i64 i/\VsO wr (w.heap.size+1) vv (M.take i)/\Below w.heap.size w wr/\Blk wr w.heap.size 28 #[.int .i64 R,.int .i64 C,.slice ao R cap]) (fun _ iv _=>R-(intOf iv).toNat)
 case atStart=>exact⟨0,by omega,rfl,by rw[List.take_zero];exact hV1,hB1,bx1⟩
 case round=>
  clear hV1 hB1 bx1;obtain⟨i,hi,rfl,hv,hb,bx1⟩:=hrel;obtain⟨vo,vc,rfl⟩:=hv.shape;have hl:(M.take i).length=i:=by rw[List.length_take,HX.out];omega
  rw[hl]at hv ⊢
  obtain⟨c1,c2,c3,c4,c5,c6⟩:=bx1.three;have lt1:=bx1.lt;by_cases hlt:i<R
  ·obtain⟨b,ra,rn,rc,zs,rfl,hbl,hz,p1,hvr⟩:=(h.below hb).row (k:=i) (by rw[HX.out];exact hlt)
   have HT:qW (M.take (i+1)=M.take i++ [zs]):=⟨by rw[List.take_add_one,hz];rfl⟩;clear hz;go_wp2_with (at_builtin;refine zMO rfl _ _ rfl (w.heap.size+1) (.slice vo i vc) (M.take i) rfl (hv.below ((Below.refl _ _).alloc (xgf _) _)) wr.heap.size 1 (.slice ra rn rc) zs rfl (Blk.new _ _ _) (hvr.below ((Below.refl _ _).alloc (xgf _) _)) (by rw[hl];omega) (by have:=hb.size;simp;omega) ?_;intro v' w' hown hgr hlx)
   have q1:=hb.size;have hne:w.heap.size<wr.heap.size:=lt1;have bx':Blk w' w.heap.size 28 #[.int .i64 R,.int .i64 C,.slice (some ⟨b,0,none⟩) R cap]:=(hgr.block _ (by simp;omega) (fun e=>by have:=(hv.own _ e.symm).1;omega)).trans (bx1.below ((Below.refl _ _).alloc (xgf _) _));have hb':Below w.heap.size w w':=(hb.alloc oM _).grown hgr (by simp;omega) (fun g hg=>by have:=(hv.own g hg).1;omega);rw[<-HT.out]at hown;go_roundw
   case rel=>exact⟨i+1,by omega,by simp,hown,hb',bx'⟩
   case measure=>simp[intOf];omega
  ·obtain rfl:i=R:=by omega
   rw[List.take_of_length_le (by rw[HX.out];exact xgf _)]at hv;go_wp2;go_ret;exact⟨_,rfl,hv.mono oM,hb⟩
theorem zJu{n:Nat}{A:Nat->Nat->Int}(σ τ:Nat->Nat)(hσ:∀a,a<n->σ a<n)(hτ:∀a,a<n->τ a<n):det n A∣det n fun a b=>A (σ a) (τ b):=by
 refine zCq (R:=n) (C:=n) (F:=A) (fun σ τ hσ hτ hi hj=>?_) σ τ hσ hτ;have idn:∀σ:Nat->Nat,(∀a,a<n->σ a<n)->Inc n σ->∀a,a<n->σ a=a:=fun σ hσ hi a ha=>by
  have h1:=hi.le a ha;have h2:∀j,a+j<n->σ a+j<=σ (a+j):=fun j=>by
   induction j with
   |zero=>intro _;exact xgf _
   |succ j ih=>
    intro hj;have h3:=hi (a+j) oM;have h4:=ih oM;have h5:a+(j+1)=a+j+1:=rfl;rw[h5];omega
  have h3:=h2 (n-1-a) oM;have h4:=hσ (a+(n-1-a)) oM;omega
 have he:det n (fun a b=>A (σ a) (τ b))=det n A:=jD fun a ha b hb=>by rw[idn σ hσ hi a ha,idn τ hτ hj b hb]
 rw[he];exact Int.dvd_refl _
theorem zCp{n:Nat}{P F G:Nat->Nat->Int}(h:∀a,a<n->∀b,b<n->G a b=zW n fun t=>P a t*F t b):det n F∣det n G:=by
 rw[jD h];exact zAE fun σ hσ=>zJu (A:=F) σ (fun b=>b) hσ fun a ha=>ha
theorem zBj.det{n r:Nat}{c:Nat->Nat}{A H U V:Nat->Nat->Int}(h:zBj n n r c A H U V):(yH n fun i=>H i i)=((Go.Proofs.YtgnmdddaiefooaaGreat.det n A).natAbs:Int):=by
 have hci:∀k,k<r->k<=c k:=by
  intro k;induction k with
  |zero=>intro _;omega
  |succ k ih=>
   intro hk;have h1:=ih oM;have h2:=h.hnf.ech.inc k (k+1) oM hk;omega
 have hup:∀a,a<n->∀b,b<n->b<a->H a b=0:=fun a ha b hb hab=>by
  by_cases hr:a<r
  ·exact h.hnf.ech.zero a hr b (by have:=hci a hr;omega)
  ·exact h.hnf.zero a oM ha b hb
 have e1:=zIT hup;have h1:=Int.natAbs_dvd_natAbs.2 (zCp (P:=U) h.mul);have h2:=Int.natAbs_dvd_natAbs.2 (zCp (P:=V) h.back);have h3:=Nat.dvd_antisymm h1 h2;have hnn:∀i,i<n->0<=H i i:=fun i hi=>by
  by_cases hr:i<r
  ·have h4:=hci i hr
   by_cases e:c i=i
   ·have:=h.hnf.ech.pos i hr
    rw[e]at this;omega
   ·rw[h.hnf.ech.zero i hr i oM]
    exact Int.le_refl _
  ·rw[h.hnf.zero i oM hi i hi]
   exact Int.le_refl _
 have hpn:∀m,m<=n->0<=yH m fun i=>H i i:=by
  intro m;induction m with
  |zero=>intro _;exact Int.le_of_lt Int.one_pos
  |succ m ih=>intro hm;exact Int.mul_nonneg (ih oM) (hnn m oM)
 have hp:=hpn n (xgf n);rw[h3,e1];omega
def zGs(n:Nat)(F:Nat->Nat->Int)(j:Nat):Int:=zW j fun t=>sg1 t*(F 0 t*det n (mnr F 0 t))
theorem zIn{n j:Nat}{F:Nat->Nat->Int}(h:j%2=0):zGs n F j+F 0 j*det n (mnr F 0 j)=zGs n F (j+1):=by
 show _=zGs n F j+sg1 j*_;unfold sg1;rw[if_pos h,Int.one_mul]
theorem zKD{n j:Nat}{F:Nat->Nat->Int}(h:j%2=1):zGs n F j+-(F 0 j*det n (mnr F 0 j))=zGs n F (j+1):=by
 show _=zGs n F j+sg1 j*_;unfold sg1;rw[if_neg oM,Int.neg_mul,Int.one_mul]
theorem zC3{k:Nat}{F:Nat->Nat->Int}(hk:k<=4)(h:∀a,a<k->∀b,b<k->(F a b).natAbs<=9):(det k F).natAbs<=1000000:=by
 refine Nat.le_trans (zD4 h) ?_;match k,hk with
 |0,_=>decide
 |1,_=>decide
 |2,_=>decide
 |3,_=>decide
 |4,_=>decide
theorem zIo{n j:Nat}{F:Nat->Nat->Int}(hn:n<=3)(hj:j<=n+1)(h:∀a,a<n+1->∀b,b<n+1->(F a b).natAbs<=9):(zGs n F j).natAbs<=36000000:=by
 have:=zAY (n:=j) (f:=fun t=>sg1 t*(F 0 t*det n (mnr F 0 t))) (B:=9*1000000) fun i hi=>by
  rw[zJT,Int.natAbs_mul];exact Nat.mul_le_mul (h 0 oM i oM) (zC3 oM fun a ha b hb=>h _ (zCg ha) _ (zCg hb))
 exact Nat.le_trans this (Nat.le_trans (Nat.mul_le_mul_right _ (Nat.le_trans hj (Nat.succ_le_succ hn))) dE)
end Go.Proofs.YtgnmdddaiefooaaGreat
