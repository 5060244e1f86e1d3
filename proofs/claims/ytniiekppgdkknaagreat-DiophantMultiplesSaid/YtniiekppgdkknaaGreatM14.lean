/- Joined. -/
import Derived.Test.YtniiekppgdkknaaGreatM10
import Derived.Test.YtniiekppgdkknaaGreatM11
set_option linter.unusedVariables false
set_option linter.unusedSimpArgs false
set_option linter.unusedSectionVars false
set_option maxHeartbeats 16000000
set_option maxRecDepth 100000
variable{a:Go.Act}{z:Int}{ls:List Int}{b base cap k n r:Nat}{ao:Option Go.Addr}{v:Go.Value}{W w w':Go.World}
namespace Go.Proofs.YtniiekppgdkknaaGreat
open Go.RowKit
theorem jX{e:Nat}(h:z.natAbs<2^e)(a:e<=1000000):Sm z:=Sm.of_pow (k:=e) (zI h (zAb dE e)) (by rw[zAd];omega)
abbrev tQ:TypeId:=60
def zCR(w:World)(v:Value)(p:Int × Int):Prop:=∃s a l c s' a' l' c',v= .agg #[.bool s,.slice a l c,.bool s',.slice a' l' c']/\yA w (.agg #[.bool s,.slice a l c]) p.1/\yA w (.agg #[.bool s',.slice a' l' c']) p.2
def zAx(w:World)(v:Value)(q:Rat):Prop:=zCR w v (q.num,(q.den:Int))
theorem zCR.ext{p:Int × Int}(h:zCR w v p)(x:zBC w w'):zCR w' v p:=by
 obtain⟨s,a,l,c,j,b,i,d,e,f,g⟩:=h;exact⟨s,a,l,c,j,b,i,d,e,f.ext x,g.ext x⟩
theorem zCR.I{p:Int × Int}(h:zCR w v p)(a:Below w.heap.size w w'):zCR w' v p:=h.ext (lx a)
theorem zAx.ext{q:Rat}(h:zAx w v q)(x:zBC w w'):zAx w' v q:=zCR.ext h x
theorem zAx.I{q:Rat}(h:zAx w v q)(a:Below w.heap.size w w'):zAx w' v q:=zCR.I h a
def zGh(w:World)(p:Int × Int)(e:Ending)(w':World):Prop:=∃v,e= .returned v/\zCR w' v p/\Below w.heap.size w w'
def zBW(w:World)(q:Rat)(e:Ending)(w':World):Prop:=∃v,e= .returned v/\zAx w' v q/\Below w.heap.size w w'
theorem yA.parts(h:yA w v z):∃s a l c,v= .agg #[.bool s,.slice a l c]:=by
 obtain⟨s,a,l,c,b,rfl,-⟩:=h;exact⟨s,a,l,c,rfl⟩
theorem jK(q:Rat):zAA (fun w v=>zAx w v q):=fun _ _ _ e h=>h.I e
def zKN(w:World)(cells:List Value)(ps:List (Int × Int)):Prop:=
 ∀(k:Nat) (p:Int × Int),ps[k]?=some p->∃s a l c s' a' l' c',cells[k*4]?=some (.bool s)/\cells[k*4+1]?=some (.slice a l c)/\cells[k*4+2]?=some (.bool s')/\cells[k*4+3]?=some (.slice a' l' c')∧
  yA w (.agg #[.bool s,.slice a l c]) p.1/\yA w (.agg #[.bool s',.slice a' l' c']) p.2
theorem zKN.ext{c:List Value}{b:List (Int × Int)}(h:zKN w c b)(x:zBC w w'):zKN w' c b:=fun k p o=>by
 obtain⟨s,a,l,c,r,d,q,e,f,g,i,j,m,n⟩:=h k p o;exact⟨s,a,l,c,r,d,q,e,f,g,i,j,m.ext x,n.ext x⟩
def zCB(w:World)(b:Nat)(ps:List (Int × Int)):Prop:=∃cs:Array Value,w.heap[b]?=some (.cells cs tQ (0,0))/\zKN w cs.toList ps
theorem zCB.lt{c:List (Int × Int)}(h:zCB w b c):b<w.heap.size:=by
 obtain⟨d,a,-⟩:=h;exact(Array.getElem?_eq_some_iff.1 a).1
theorem zCB.old{a:List (Int × Int)}(h:zCB w b a)(e:w'.heap[b]?=w.heap[b]?)(x:zBC w w'):zCB w' b a:=by
 obtain⟨c,d,f⟩:=h;exact⟨c,e.trans d,f.ext x⟩
theorem zCB.I{c:List (Int × Int)}(h:zCB w b c)(a:Below w.heap.size w w'):zCB w' b c:=h.old (a.block _ h.lt) (lx a)
theorem zCB.cell{m:List (Int × Int)}(h:zCB w b m){p:Int × Int}(x:m[k]?=some p):
  ∃s a l c j f g c',w.cell? ⟨b,k*4,none⟩=some (.bool s)/\w.cell? ⟨b,k*4+1,none⟩=some (.slice a l c)/\w.cell? ⟨b,k*4+2,none⟩=some (.bool j)/\w.cell? ⟨b,k*4+3,none⟩=some (.slice f g c')∧
   (∀i,w.frozen? ⟨b,i,none⟩=false)/\yA w (.agg #[.bool s,.slice a l c]) p.1/\yA w (.agg #[.bool j,.slice f g c']) p.2:=by
 obtain⟨d,e,v⟩:=h;obtain⟨s,a,l,c,j,f,g,c',n,o,q,r,t,u⟩:=v k p x;refine⟨s,a,l,c,j,f,g,c',?_,?_,?_,?_,fun i=>frozen_of_row w b _ d tQ e,t,u⟩;exact(cell_of_row w b _ d tQ _ e).trans (by simpa using n);exact(cell_of_row w b _ d tQ _ e).trans (by simpa using o);exact(cell_of_row w b _ d tQ _ e).trans (by simpa using q);exact(cell_of_row w b _ d tQ _ e).trans (by simpa using r)
def zDE(w:World)(v:Value)(ps:List (Int × Int)):Prop:=
 ∃ao n cap,v= .slice ao n cap/\ps.length=n/\n<=cap/\cap<=9223372036854775807/\(ps≠ []->∃b,ao=some ⟨b,0,none⟩/\zCB w b ps)
theorem zDE.nil(w:World):zDE w (.slice none 0 0) []:=⟨none,0,0,rfl,rfl,xgf _,by omega,fun h=>absurd rfl h⟩
theorem zDE.I{a:List (Int × Int)}(h:zDE w v a)(i:Below w.heap.size w w'):zDE w' v a:=by
 obtain⟨ao,n,cap,c,d,e,f,g⟩:=h;exact⟨ao,n,cap,c,d,e,f,fun j=>(g j).elim fun b h=>⟨b,h.1,h.2.I i⟩⟩
theorem zDE.cell{j:List (Int × Int)}(h:zDE w (.slice ao n cap) j)(i:k<j.length):
  ∃b p s a l c g d f c',ao=some ⟨b,0,none⟩/\b<w.heap.size/\j[k]?=some p/\w.cell? ⟨b,k*4,none⟩=some (.bool s)/\w.cell? ⟨b,k*4+1,none⟩=some (.slice a l c)/\w.cell? ⟨b,k*4+2,none⟩=some (.bool g)/\w.cell? ⟨b,k*4+3,none⟩=some (.slice d f c')∧
   yA w (.agg #[.bool s,.slice a l c]) p.1/\yA w (.agg #[.bool g,.slice d f c']) p.2:=by
 obtain⟨A,H,B,y,E,F,G,z⟩:=h;injection y with x C D
 subst x;obtain⟨b,e,m⟩:=z (by rintro rfl;simp at i);obtain⟨s,a,l,c,g,d,f,c',o,q,r,t,-,u,v⟩:=m.cell (xga i);exact⟨b,_,s,a,l,c,g,d,f,c',e,m.lt,xga i,o,q,r,t,u,v⟩
def zXK(w:World)(v:Value)(qs:List Rat):Prop:=zDE w v (qs.map fun q=>(q.num,(q.den:Int)))
theorem Tryz.infoQ:(Tryz.prog.info? tQ).map (fun i=>(i.zero,i.size,i.bytes))=some (some (.agg #[.bool false,.slice none 0 0,.bool false,.slice none 0 0]),4,64):=by kernel_rfl
def zBa(w:World)(base:Nat)(v:Value)(ps:List (Int × Int)):Prop:=∃cells,w.ownsRow base tQ 4 v ps.length cells/\zKN w cells ps
theorem zBa.made(w:World)(a:base<=w.heap.size):zBa (w.alloc (.cells #[] tQ)) base (.slice (some ⟨w.heap.size,0,none⟩) 0 0) []:=
 ⟨[],World.ownsRow_made w #[] 0 a (zG _) rfl,fun k _ h=>by simp at h⟩
theorem zBa.I{b:List (Int × Int)}(h:zBa w base v b)(a:Below w.heap.size w w'):zBa w' base v b:=by
 obtain⟨c,d,e⟩:=h;exact⟨c,d.kept (row:=none) ⟨a.os,a.tape,a.output,a.size,fun k f _=>a.block k f⟩ (by cases g:v.ownBlock<;>simp),e.ext (lx a)⟩
theorem zBa.prs{b:List (Int × Int)}(h:zBa w base v b):zDE w v b:=by
 obtain⟨E,⟨F,t⟩,u⟩:=h;rcases t with⟨rfl,z⟩|⟨g,cap,o,rfl,G,y,A,x,I,B⟩
 .have:b= []:=zY z
  subst this;exact zDE.nil w
 refine⟨some ⟨g,0,none⟩,b.length,cap,rfl,rfl,A,x,fun _=>⟨g,rfl,o,y,fun k p j=>?_⟩⟩;obtain⟨s,a,l,c,D,m,C,n,d,e,f,i,q,r⟩:=u k p j;have H:k<b.length:=(xge.1 j).1;rw[<-B,List.getElem?_take_of_lt oM]at d e f i;exact⟨s,a,l,c,D,m,C,n,d,e,f,i,q,r⟩
theorem zBa.shape{a:List (Int × Int)}(h:zBa w base v a):∃ao cap,v= .slice ao a.length cap/\a.length<=cap/\cap<=9223372036854775807:=by
 obtain⟨ao,n,cap,b,c,d,e,-⟩:=h.prs;subst c;exact⟨ao,cap,b,d,e⟩
theorem zBa.own{b:List (Int × Int)}(h:zBa w base v b):∀g,v.ownBlock=some g->base<=g/\g<w.heap.size:=by
 obtain⟨c,a,-⟩:=h;exact zBz a
theorem zTo{w:World}{ops:Array Oper}{rest:List Oper}{o:Oper}{a:Act}{Q:Exit->Act->World->Prop}(L:o.guard=none)(s x:Operand)
  (R:o.op= .call {callee:=.builtin .append,args:=#[s,x],argTypes:=#[40,40]})
  (base:Nat) (v:Value) (d:List (Int × Int)) (T:a.eval s=v) (S:zBa w base v d) (b:Nat) (c:Nat) (t:Bool) (i:Option Addr) (q m:Nat) (u:Bool) (l:Option Addr) (r n:Nat) (p:Int × Int) (f:a.eval x= .slice (some ⟨b,0,none⟩) 1 c)
  (y:Blk w b tQ #[.bool t,.slice i q m,.bool u,.slice l r n]) (X:yA w (.agg #[.bool t,.slice i q m]) p.1) (Y:yA w (.agg #[.bool u,.slice l r n]) p.2)
  (a5:d.length+1<=1099511627776) (K:base<=w.heap.size)
  (h:∀A w',zBa w' base A (d++ [p])->w.grownBy w' v.ownBlock->zBC w w'->wpList Tryz.prog ops Q rest (a.put o.dst A) w'):wpList Tryz.prog ops Q (o::rest) a w:=by
 obtain⟨Z,N,U,V,W⟩:=info_parts Tryz.infoQ;obtain⟨B,C,J⟩:=S;have z:B.length=d.length*4:=C.1;have q0:=y.cell 0;have q1:=y.cell 1;have q2:=y.cell 2;have q3:=y.cell 3;refine wpList_append_own w L s x 40 R base tQ Z _ 4 64 Tryz.underlying40 N U V W rfl oM v d.length B T C ⟨b,0,none⟩ 1 c [.bool t,.slice i q m,.bool u,.slice l r n] f rfl ?_ ?_ (by simp[maxLen];omega) oM K ?_
 .intro j a3 e
  rw[jI];match j with
  |0=>simp at e;subst e;exact q0
  |1=>simp at e;subst e;exact q1
  |2=>simp at e;subst e;exact q2
  |3=>simp at e;subst e;exact q3
  |j+4=>simp at e
 .intro a3 D
  simp at D;rcases D with rfl|rfl|rfl|rfl<;>rfl
 intro A w' k1 E _;have f:=zCA C dE E;refine h A w' ⟨B++ [.bool t,.slice i q m,.bool u,.slice l r n],by simpa using k1,?_⟩ E f;intro k a4 g;rcases zJ k d.length with P|M
 .rw[List.getElem?_append_left P]at g
  obtain⟨s,a,a0,c,s',F,l',G,e1,e2,e3,e4,H,I⟩:=J k a4 g;refine⟨s,a,a0,c,s',F,l',G,?_,?_,?_,?_,H.ext f,I.ext f⟩<;>(rw[List.getElem?_append_left oM];assumption)
 rw[List.getElem?_append_right M]at g;have O:k=d.length:=by
  have:=(xge.1 g).1;simp at this;omega
 subst O;simp at g;subst g;refine⟨t,i,q,m,u,l,r,n,?_,?_,?_,?_,X.ext f,Y.ext f⟩;rw[List.getElem?_append_right oM,z];simp;rw[List.getElem?_append_right oM,z,show d.length*4+1-d.length*4=1 by omega];rfl;rw[List.getElem?_append_right oM,z,show d.length*4+2-d.length*4=2 by omega];rfl;rw[List.getElem?_append_right oM,z,show d.length*4+3-d.length*4=3 by omega];rfl
section
variable {w:World} {g:Nat} {t:TypeId} {c0 c1 c2 c3:Value}
theorem Blk.four(h:Blk w g t #[c0,c1,c2,c3]):w.cell? ⟨g,0,none⟩=some c0/\w.cell? ⟨g,1,none⟩=some c1/\w.cell? ⟨g,2,none⟩=some c2/\w.cell? ⟨g,3,none⟩=some c3/\w.frozen? ⟨g,0,none⟩=false/\w.frozen? ⟨g,1,none⟩=false/\w.frozen? ⟨g,2,none⟩=false/\w.frozen? ⟨g,3,none⟩=false:=
 ⟨h.cell 0,h.cell 1,h.cell 2,h.cell 3,h.frozen 0,h.frozen 1,h.frozen 2,h.frozen 3⟩
theorem Blk.put4(h:Blk w g t #[c0,c1,c2,c3])(x0 a b c:Value):Blk ((((w.setCell ⟨g,0,none⟩ x0).setCell ⟨g,1,none⟩ a).setCell ⟨g,2,none⟩ b).setCell ⟨g,3,none⟩ c) g t #[x0,a,b,c]:=by
 simpa using(((h.set_ 0 x0).set_ 1 a).set_ 2 b).set_ 3 c
theorem Blk.lext4{cs:Array Value}(h:Blk w g t cs)(a:t≠tU)(i:Nat)(x0 b c d:Value):zBC w ((((w.setCell ⟨g,i,none⟩ x0).setCell ⟨g,i+1,none⟩ b).setCell ⟨g,i+2,none⟩ c).setCell ⟨g,i+3,none⟩ d):=
 (((h.lext a i _).trans ((h.set_ i _).lext a (i+1) _)).trans (((h.set_ i _).set_ (i+1) _).lext a (i+2) _)).trans ((((h.set_ i _).set_ (i+1) _).set_ (i+2) _).lext a (i+3) _)
theorem zFS(w:World)(b i k:Nat)(x y z u:Value)(h:k≠b):((((w.setCell ⟨b,i,none⟩ x).setCell ⟨b,i+1,none⟩ y).setCell ⟨b,i+2,none⟩ z).setCell ⟨b,i+3,none⟩ u).heap[k]?=w.heap[k]?:=
 (yO _ b _ k u h).trans ((yO _ b _ k z h).trans (yG w b i (i+1) k x y h))
theorem zA8{B:Nat}{a:World}(h:Below B a w)(b:B<=g)(i:Nat)(x y z u:Value):Below B a ((((w.setCell ⟨g,i,none⟩ x).setCell ⟨g,i+1,none⟩ y).setCell ⟨g,i+2,none⟩ z).setCell ⟨g,i+3,none⟩ u):=yM (yM (yM (yM h b _ _) b _ _) b _ _) b _ _
end
theorem Tryz.sizeQ:(Tryz.prog.info? tQ).map (·.size)=some 4:=by kernel_rfl
theorem jQ{fn:Func}{w W:World}{q:Int × Int}{r:Nat}{x0 b c d:Value}{p:Tmp}(h:fn.results=#[.cell p tQ])(hd:a.defers= [])
  (f:a.tmps.getD p undef= .pointer (some ⟨r,0,none⟩)) (e:Blk W r tQ #[x0,b,c,d]) (hv:zCR W (.agg #[x0,b,c,d]) q) (hbel:Below w.heap.size w W):bodyPost Tryz.prog fn (zGh w q) .ret a W:=
 bodyPost_ret (results_cell_row h _ W r _ _ _ _ f e Tryz.underlying60 rfl (by rw[Tryz.sizeQ];rfl)) hd ⟨_,rfl,hv,hbel⟩
theorem zQk{v:Array Value}(b:Blk W r tQ v)(a:v.size=4):(loadVar tQ ⟨r,0,none⟩).run Tryz.prog W= .ok (.agg v) W:=
 run_loadVar_row W r _ _ v _ _ b Tryz.underlying60 rfl (by rw[Tryz.sizeQ,a])
theorem zEJ{fn:Func}{p u:Tmp}(h:fn.results=#[.cell p tQ,.tmp u])(tmps:Array Value){W:World}{r:Nat}{v:Array Value}
  (c:tmps.getD p undef= .pointer (some ⟨r,0,none⟩)) (b:Blk W r tQ v) (a:v.size=4):
  (results fn tmps).run Tryz.prog W= .ok (.tuple #[.agg v,tmps.getD u undef]) W:=by
 have d:tmps[p]?.getD undef= .pointer (some ⟨r,0,none⟩):=by simpa using c
 simp[results,h,d,asAddr,zQk b a]
abbrev tFr:TypeId:=183
theorem Tryz.sizeFr:(Tryz.prog.info? tFr).map (·.size)=some 4:=by kernel_rfl
theorem zEW{fn:Func}{w W:World}{q:Int × Int}{r:Nat}{x0 b c d:Value}{p:Tmp}(h:fn.results=#[.cell p tFr])(hd:a.defers= [])
  (f:a.tmps.getD p undef= .pointer (some ⟨r,0,none⟩)) (e:Blk W r tFr #[x0,b,c,d]) (hv:zCR W (.agg #[x0,b,c,d]) q) (hbel:Below w.heap.size w W):bodyPost Tryz.prog fn (zGh w q) .ret a W:=
 bodyPost_ret (results_cell_row h _ W r _ _ _ _ f e Tryz.underlying183 rfl (by rw[Tryz.sizeFr];rfl)) hd ⟨_,rfl,hv,hbel⟩
theorem zRg(z A:Value)(c e d f:Int)(w:World)(X:zCR w z (c,e))(Y:zCR w A (d,f))(u:Sm c)(x:Sm e)(v:Sm d)(y:Sm f):
  Calls Tryz.prog 160 #[z,A] w (zGh w (c*d,e*f)):=by
 have C:=xgv u;have D:=xgv x;have E:=xgv v;have F:=xgv y;clear u x v y;obtain⟨s1,a1,l1,k1,s2,a2,l2,k2,rfl,l,m⟩:=X;obtain⟨s3,a3,l3,k3,s4,a4,l4,k4,rfl,n,o⟩:=Y;dsimp only at l m n o;have g:=xgv l;have h:=xgv m;have i:=xgv n;have j:=xgv o;clear l m n o;go_enter Tryz.func160,Tryz.ntmps160;go_upto_region 1 with(fail)
 refine zE ?_;intro W0 p;obtain⟨b,G,H,a,a0⟩:=zBB p;have g:=xgv (g.out.ext (lx b));have h:=xgv (h.out.ext (lx b));have i:=xgv (i.out.ext (lx b));have j:=xgv (j.out.ext (lx b));obtain⟨c1,c2,c3,K,L,M,N,O⟩:=G.four;obtain⟨P,Q,R,S,T,U,V,W⟩:=H.four;clear p;refine yD 10 [pcI 4 (c*d),pcI 9 (e*f)] ?_;refine sRd ?_;refine sRc (fun wS hI B k=>by go_simp;exact ck k (zCD _ _ c d _ (g.out.ext (lx hI.bel)).J (i.out.ext (lx hI.bel)).J C.out E.out)) (fun a5 _=>?_);refine sRd ?_;refine sRc (fun wS hI B k=>by go_simp;exact ck k (zCD _ _ e f _ (h.out.ext (lx hI.bel)).J (j.out.ext (lx hI.bel)).J D.out F.out)) (fun a6 _=>?_);refine sRe ?_;intro w1 s q r;have a:=a.I s;have Z:=nx b s;obtain⟨m1,I,n1,o1,rfl⟩:=(show yA _ _ _ from q).parts;obtain⟨m2,J,n2,o2,rfl⟩:=(show yA _ _ _ from r).parts;obtain⟨r1,r2,r3,r4,r5,r6,r7,r8⟩:=a.four;clear c1 c2 c3 K L M N O P Q R S T U V W;go_wp2;have t:=a.lext4 dE 0 (.bool m1) (.slice I n1 o1) (.bool m2) (.slice J n2 o2);exact zEW rfl rfl rfl (a.put4 _ _ _ _) ⟨_,_,_,_,_,_,_,_,rfl,q.ext t,r.ext t⟩ (zA8 Z oM 0 _ _ _ _)
theorem zRd(z A:Value)(c e d f:Int)(w:World)(X:zCR w z (c,e))(Y:zCR w A (d,f))(u:Sm c)(x:Sm e)(v:Sm d)(y:Sm f):
  Calls Tryz.prog 154 #[z,A] w (zGh w (c*f,e*d)):=by
 have C:=xgv u;have D:=xgv x;have E:=xgv v;have F:=xgv y;clear u x v y;obtain⟨s1,a1,l1,k1,s2,a2,l2,k2,rfl,l,m⟩:=X;obtain⟨s3,a3,l3,k3,s4,a4,l4,k4,rfl,n,o⟩:=Y;dsimp only at l m n o;have g:=xgv l;have h:=xgv m;have i:=xgv n;have j:=xgv o;clear l m n o;go_enter Tryz.func154,Tryz.ntmps154;go_upto_region 1 with(fail)
 refine zE ?_;intro W0 p;obtain⟨b,G,H,a,a0⟩:=zBB p;have g:=xgv (g.out.ext (lx b));have h:=xgv (h.out.ext (lx b));have i:=xgv (i.out.ext (lx b));have j:=xgv (j.out.ext (lx b));obtain⟨c1,c2,c3,K,L,M,N,O⟩:=G.four;obtain⟨P,Q,R,S,T,U,V,W⟩:=H.four;clear p;refine yD 10 [pcI 4 (c*f),pcI 9 (e*d)] ?_;refine sRd ?_;refine sRc (fun wS hI B k=>by go_simp;exact ck k (zCD _ _ c f _ (g.out.ext (lx hI.bel)).J (j.out.ext (lx hI.bel)).J C.out F.out)) (fun a5 _=>?_);refine sRd ?_;refine sRc (fun wS hI B k=>by go_simp;exact ck k (zCD _ _ e d _ (h.out.ext (lx hI.bel)).J (i.out.ext (lx hI.bel)).J D.out E.out)) (fun a6 _=>?_);refine sRe ?_;intro w1 s q r;have a:=a.I s;have Z:=nx b s;obtain⟨m1,I,n1,o1,rfl⟩:=(show yA _ _ _ from q).parts;obtain⟨m2,J,n2,o2,rfl⟩:=(show yA _ _ _ from r).parts;obtain⟨r1,r2,r3,r4,r5,r6,r7,r8⟩:=a.four;clear c1 c2 c3 K L M N O P Q R S T U V W;go_wp2;have t:=a.lext4 dE 0 (.bool m1) (.slice I n1 o1) (.bool m2) (.slice J n2 o2);exact zEW rfl rfl rfl (a.put4 _ _ _ _) ⟨_,_,_,_,_,_,_,_,rfl,q.ext t,r.ext t⟩ (zA8 Z oM 0 _ _ _ _)
theorem zRc(I J:Value)(c a d b:Int)(w:World)(h1:zCR w I (c,a))(h2:zCR w J (d,b))(E:Sm c)(G:Sm a)(F:Sm d)(H:Sm b)(C:Sm (c*b))(D:Sm (d*a)):
  Calls Tryz.prog 159 #[I,J] w (zGh w (c*b+d*a,a*b)):=by
 have K:=xgv E;have r:=xgv G;have L:=xgv F;have s:=xgv H;have M:=xgv C;have N:=xgv D;clear E G F H C D;obtain⟨s1,a1,l1,k1,s2,a2,l2,k2,rfl,m,n⟩:=h1;obtain⟨s3,a3,l3,k3,s4,a4,l4,k4,rfl,o,p⟩:=h2;dsimp only at m n o p;have k:=xgv m;have h:=xgv n;have l:=xgv o;have i:=xgv p;clear m n o p;go_enter Tryz.func159,Tryz.ntmps159;go_upto_region 1 with(fail)
 refine zE ?_;intro W0 t;obtain⟨g,O,P,f,a0⟩:=zBB t;have k:=xgv (k.out.ext (lx g));have h:=xgv (h.out.ext (lx g));have l:=xgv (l.out.ext (lx g));have i:=xgv (i.out.ext (lx g));obtain⟨c1,c2,c3,S,T,U,V,W⟩:=O.four;obtain⟨X,Y,Z,d4,d5,d6,d7,d8⟩:=P.four;clear t;refine yD 16 [pcI 4 (c*b),pcI 9 (d*a),pcD 10 [4,9] (fun w v=>yA w v (c*b+d*a)),pcI 15 (a*b)] ?_;refine sRd ?_;refine sRc (fun q hI j e=>by go_simp;exact ck e (zCD _ _ c b _ (k.out.ext (lx hI.bel)).J (i.out.ext (lx hI.bel)).J K.out s.out)) (fun a7 _=>?_);refine sRd ?_;refine sRc (fun q hI j e=>by go_simp;exact ck e (zCD _ _ d a _ (l.out.ext (lx hI.bel)).J (h.out.ext (lx hI.bel)).J L.out r.out)) (fun a8 _=>?_);refine sRc (fun q hI y z j e=>by go_simp;exact ck e (zEu _ _ (c*b) (d*a) _ y.J z.J M.out N.out)) (fun a5 _=>?_);refine sRd ?_;refine sRc (fun q hI j e=>by go_simp;exact ck e (zCD _ _ a b _ (h.out.ext (lx hI.bel)).J (i.out.ext (lx hI.bel)).J r.out s.out)) (fun a6 _=>?_);refine sRe ?_;intro w1 A y z u x;have f:=f.I A;have hB:=nx g A;obtain⟨m1,Q,n1,o1,rfl⟩:=(show yA _ _ _ from u).parts;obtain⟨m2,R,n2,o2,rfl⟩:=(show yA _ _ _ from x).parts;obtain⟨r1,r2,r3,r4,r5,r6,r7,r8⟩:=f.four;clear c1 c2 c3 S T U V W X Y Z d4 d5 d6 d7 d8;go_wp2;have B:=f.lext4 dE 0 (.bool m1) (.slice Q n1 o1) (.bool m2) (.slice R n2 o2);exact zEW rfl rfl rfl (f.put4 _ _ _ _) ⟨_,_,_,_,_,_,_,_,rfl,u.ext B,x.ext B⟩ (zA8 hB oM 0 _ _ _ _)
theorem zJA(v:Value)(n d:Int)(w:World)(h:zCR w v (n,d))(sn:Sm n)(sd:Sm d)(U:d≠0):
  Calls Tryz.prog 152 #[v] w (zBW w (Rat.divInt n d)):=by
 obtain⟨s1,a1,l1,k1,s2,a2,l2,k2,rfl,i1,i2⟩:=h;dsimp only at i1 i2;have j:=xgv i1;have f:=xgv i2;have S1:=xgv sn;have S2:=xgv sd;have b2:(Int.gcd n d:Int).natAbs<=d.natAbs:=by
  rw[zQ];exact zB6 (Int.natAbs_pos.2 U) (Int.natAbs_dvd_natAbs.2 (zAH n d)|>fun h=>by simpa using h)
 have SG:qS (Sm (Int.gcd n d:Int)):=⟨sd.mono b2⟩;have T:qS (Sm (zMM n d)):=⟨sd.mono (by unfold zMM;split<;>omega)⟩;have S:=xgv (zP5 (n:=n) U);have a5:=xgv (zMO (n:=n) U);have a3:=xgv (zMN (n:=n) U);have Z:qS (zMM n d=if d<0 then-((Int.gcd n d:Nat):Int)else((Int.gcd n d:Nat):Int)):=⟨rfl⟩;obtain⟨L,hL⟩:∃L,zMM n d=L:=⟨_,rfl⟩;obtain⟨g,hg⟩:∃g:Int,((Int.gcd n d:Nat):Int)=g:=⟨_,rfl⟩;rw[hL]at T S a5 a3 Z;rw[hg]at SG Z;have a8:qS (∀(v1 v2:Value) (w:World),yA w v1 n->yA w v2 d->Calls Tryz.prog 130 #[v1,v2] w (zBk w g)):=⟨fun v1 v2 w k1 k2=>hg ▸ zPj v1 v2 n d w k1 k2 S1.out S2.out⟩;obtain⟨k,hk⟩:∃k,zAB d 0=k:=⟨_,rfl⟩;have b4:k≠0:=by rw[<-hk];unfold zAB;split<;>(try split)<;>omega
 have b8:(k==0)=false:=by simpa using b4
 have HK:qS (k<0↔d<0):=⟨by rw[<-hk];unfold zAB;split<;>(try split)<;>omega⟩;have a6:qS (∀(v:Value) (w:World),yA w v d->Calls Tryz.prog 76 #[v] w fun e w'=>e= .returned (.int .i64 k)/\Below w.heap.size w w'):=⟨fun v w hv=>hk ▸ zAn v d w hv.J⟩;clear i1 i2 sn sd b2 hL hg hk U;go_enter Tryz.func152,Tryz.ntmps152;go_upto_region 1 with(fail)
 refine zE ?_;intro W0 a9;obtain⟨N,b,a,b9⟩:=jW a9;have j:=xgv (j.out.ext (lx N));have f:=xgv (f.out.ext (lx N));obtain⟨c1,c2,c3,p,q,r,s,t⟩:=b.four;clear a9;go_wp2_with fail
 refine(a6.out _ W0 f.out).mono ?_;rintro e w1 ⟨rfl,E⟩;have b:=b.I E;have a:=a.I E;have j:=xgv (j.out.ext (lx E));have f:=xgv (f.out.ext (lx E));have c:=nx N E;clear c1 c2 c3 p q r s t;obtain⟨c1,c2,c3,p,q,r,s,t⟩:=b.four;go_wp2_with fail
 refine(a8.out _ _ w1 j.out f.out).mono ?_;rintro e w2 ⟨gv,rfl,a7,F⟩;obtain⟨gs,ga,gl,gc,rfl⟩:=a7.parts;have b:=b.I F;have a:=a.I F;have j:=xgv (j.out.ext (lx F));have f:=xgv (f.out.ext (lx F));have M:=xgv a7;have c:=nx c F;clear c1 c2 c3 p q r s t a7;go_upto_region 4 with(fail)
 refine zE ?_;intro W3 b0;obtain⟨O,i,c0⟩:=qL b0;have b:=b.I O;have a:=a.I O;have j:=xgv (j.out.ext (lx O));have f:=xgv (f.out.ext (lx O));have M:=xgv (M.out.ext (lx O));have c:=nx c O;clear b0;obtain⟨c1,c2,c3,p,q,r,s,t⟩:=b.four;go_wp2_with fail
 refine(a6.out _ W3 f.out).mono ?_;rintro e w4 ⟨rfl,K⟩;have b:=b.I K;have a:=a.I K;have i:=i.I K;have j:=xgv (j.out.ext (lx K));have f:=xgv (f.out.ext (lx K));have M:=xgv (M.out.ext (lx K));have c:=nx c K;clear c1 c2 c3 p q r s t;clear a6 a8;by_cases R:d<0
 .have b5:k<0:=HK.out.2 R
  have a4:qS (-g=L):=⟨by have:=Z.out;rw[zC R]at this;exact this.symm⟩;clear R;obtain⟨u,x,y,z⟩:=i.two;go_wp2_with fail
  refine(zCN _ g w4 M.out.J SG.out).mono ?_;rintro e w5 ⟨lv,rfl,a0,Q⟩;rw[a4.out]at a0;obtain⟨ls,la,ll,lc,rfl⟩:=a0.parts;have b:=b.I Q;have a:=a.I Q;have i:=i.I Q;have j:=xgv (j.out.ext (lx Q));have f:=xgv (f.out.ext (lx Q));have l:=xgv a0;have q3:=i.lt;have c:=nx c Q;clear u x y z a0;obtain⟨u,x,y,z⟩:=i.two;go_upto_region 6 with(fail)
  refine zE ?_;intro I P;have D:zBC w5 I:=by rw[P.out];exact i.lext2 dE _ _
  have b:Blk I _ _ _:=(show I.heap[w.heap.size]?=_ by rw[P.out];exact yG _ _ _ _ _ _ _ (by have:=N.size;have:=E.size;have:=F.size;omega)).trans b;have a:Blk I _ _ _:=(show I.heap[w.heap.size+1]?=_ by rw[P.out];exact yG _ _ _ _ _ _ _ (by have:=E.size;have:=F.size;omega)).trans a;have i:Blk I w2.heap.size 51 #[.bool ls,.slice la ll lc]:=by rw[P.out];exact i.put2 _ _
  have c:Below w.heap.size w I:=by rw[P.out];exact yM (yM c (by have:=N.size;have:=E.size;have:=F.size;omega) _ _) (by have:=N.size;have:=E.size;have:=F.size;omega) _ _
  have j:=xgv (j.out.ext D);have f:=xgv (f.out.ext D);have l:=xgv (l.out.ext D);clear P u x y z D;obtain⟨c1,c2,c3,p,q,r,s,t⟩:=b.four;obtain⟨u,x,y,z⟩:=i.two;go_wp2_with fail
  refine(zCU _ _ n L I j.out.J l.out.J S1.out T.out S.out).mono ?_;rintro e w7 ⟨qv,rv,rfl,H,Y,A⟩;rw[a5.out]at H;obtain⟨qs,qa,ql,qc,rfl⟩:=H.parts;obtain⟨rs,ra,rl,rc,rfl⟩:=Y.parts;have b:=b.I A;have a:=a.I A;have i:=i.I A;have f:=xgv (f.out.ext (lx A));have l:=xgv (l.out.ext (lx A));have m:=xgv H;have c:=nx c A;clear H Y c1 c2 c3 p q r s t u x y z;go_upto_region 7 with(fail)
  refine zE ?_;intro W8 W;obtain⟨o,B,T5,b7⟩:=jW W;have b:=b.I o;have a:=a.I o;have i:=i.I o;have f:=xgv (f.out.ext (lx o));have l:=xgv (l.out.ext (lx o));have m:=xgv (m.out.ext (lx o));have c:=nx c o;clear W;obtain⟨c1,c2,c3,p,q,r,s,t⟩:=b.four;obtain⟨u,x,y,z⟩:=i.two;go_wp2_with fail
  refine(zCU _ _ d L W8 f.out.J l.out.J S2.out T.out S.out).mono ?_;rintro e w9 ⟨dv,ev,rfl,hd,X,G⟩;rw[a3.out]at hd;obtain⟨ds,da,dl,dc,rfl⟩:=hd.parts;obtain⟨es,ea,el,ec,rfl⟩:=X.parts;have a:=a.I G;have B:=B.I G;have m:=xgv (m.out.ext (lx G));have J:=xgv hd;have c:=nx c G;clear hd X c1 c2 c3 p q r s t u x y z b i;go_upto_region 8 with(fail)
  refine zE ?_;intro b3 V;obtain⟨C,T6,T7,b6⟩:=jW V;have a:=a.I C;have B:=B.I C;have m:=xgv (m.out.ext (lx C));have J:=xgv (J.out.ext (lx C));have c:=nx c C;clear V;obtain⟨u,x,y,z⟩:=B.two;obtain⟨f1,f2,f3,f4⟩:=T6.two;obtain⟨r1,r2,r3,r4,r5,r6,r7,r8⟩:=a.four;go_wp2;have D:=a.lext4 dE 0 (.bool qs) (.slice qa ql qc) (.bool ds) (.slice da dl dc);exact jQ rfl rfl rfl (a.put4 _ _ _ _) ⟨_,_,_,_,_,_,_,_,rfl,m.out.ext D,J.out.ext D⟩ (zA8 c oM 0 _ _ _ _)
 have b5:¬ k<0:=fun h=>R (HK.out.1 h)
 have a4:qS (g=L):=⟨by have:=Z.out;rw[zA R]at this;exact this.symm⟩;have l:=a4.out ▸ M;clear R;go_upto_region 6 with(fail)
 obtain⟨c1,c2,c3,p,q,r,s,t⟩:=b.four;obtain⟨u,x,y,z⟩:=i.two;go_wp2_with fail
 refine(zCU _ _ n L w4 j.out.J l.out.J S1.out T.out S.out).mono ?_;rintro e w7 ⟨qv,rv,rfl,H,Y,A⟩;rw[a5.out]at H;obtain⟨qs,qa,ql,qc,rfl⟩:=H.parts;obtain⟨rs,ra,rl,rc,rfl⟩:=Y.parts;have b:=b.I A;have a:=a.I A;have i:=i.I A;have f:=xgv (f.out.ext (lx A));have l:=xgv (l.out.ext (lx A));have m:=xgv H;have c:=nx c A;clear H Y c1 c2 c3 p q r s t u x y z;go_upto_region 7 with(fail)
 refine zE ?_;intro W8 W;obtain⟨o,B,T5,b7⟩:=jW W;have b:=b.I o;have a:=a.I o;have i:=i.I o;have f:=xgv (f.out.ext (lx o));have l:=xgv (l.out.ext (lx o));have m:=xgv (m.out.ext (lx o));have c:=nx c o;clear W;obtain⟨c1,c2,c3,p,q,r,s,t⟩:=b.four;obtain⟨u,x,y,z⟩:=i.two;go_wp2_with fail
 refine(zCU _ _ d L W8 f.out.J l.out.J S2.out T.out S.out).mono ?_;rintro e w9 ⟨dv,ev,rfl,hd,X,G⟩;rw[a3.out]at hd;obtain⟨ds,da,dl,dc,rfl⟩:=hd.parts;obtain⟨es,ea,el,ec,rfl⟩:=X.parts;have a:=a.I G;have B:=B.I G;have m:=xgv (m.out.ext (lx G));have J:=xgv hd;have c:=nx c G;clear hd X c1 c2 c3 p q r s t u x y z b i;go_upto_region 8 with(fail)
 refine zE ?_;intro b3 V;obtain⟨C,T6,T7,b6⟩:=jW V;have a:=a.I C;have B:=B.I C;have m:=xgv (m.out.ext (lx C));have J:=xgv (J.out.ext (lx C));have c:=nx c C;clear V;obtain⟨u,x,y,z⟩:=B.two;obtain⟨f1,f2,f3,f4⟩:=T6.two;obtain⟨r1,r2,r3,r4,r5,r6,r7,r8⟩:=a.four;go_wp2;have D:=a.lext4 dE 0 (.bool qs) (.slice qa ql qc) (.bool ds) (.slice da dl dc);exact jQ rfl rfl rfl (a.put4 _ _ _ _) ⟨_,_,_,_,_,_,_,_,rfl,m.out.ext D,J.out.ext D⟩ (zA8 c oM 0 _ _ _ _)
theorem zQE{g:FuncId}(N:g=159∨g=160∨g=154)(l v:Value)(x y X Y:Int)(w:World)(hv:zCR w v (x,y))
  (hc:∀(u:Value) (W:World),Below w.heap.size w W->zCR W u (x,y)->Calls Tryz.prog g #[l,u] W (zGh W (X,Y))) (t:Sm X) (z:Sm Y) (m:Y≠0):
  Calls Tryz.prog 155 #[.agg #[.func (.func g) #[l] #[]],v] w (zBW w (Rat.divInt X Y)):=by
 obtain⟨s1,J,V,R,s2,K,Z,S,rfl,j,k⟩:=hv;dsimp only at j k;have d:=xgv j;have f:=xgv k;have c:=xgv hc;have E:=xgv t;have F:=xgv z;have A:=xgv m;clear j k hc t z m;go_enter Tryz.func155,Tryz.ntmps155;go_upto_region 1 with(fail)
 refine zE ?_;intro I n;obtain⟨b,G,H,a,a0⟩:=zBB n;have d:=xgv (d.out.ext (lx b));have f:=xgv (f.out.ext (lx b));have c:=xgv (c.out (.agg #[.bool s1,.slice J V R,.bool s2,.slice K Z S]) I b ⟨_,_,_,_,_,_,_,_,rfl,d.out,f.out⟩);have c1:=G.cell 0;obtain⟨d1,d2,d3,d4,d5,d6,d7,d8⟩:=H.four;clear n;rcases N with rfl|rfl|rfl<;>(
  go_wp2_with fail
  refine c.out.mono ?_;rintro e w1 ⟨u,rfl,i,o⟩;obtain⟨s3,a3,l3,k3,s4,a4,l4,k4,rfl,P,Q⟩:=id i;have a:=a.I o;have B:=xgv i;have h:=nx b o;clear i P Q;go_wp2_with fail
  refine(zJA _ X Y w1 B.out E.out F.out A.out).mono ?_;rintro e w2 ⟨rv,rfl,O,p⟩;obtain⟨s5,L,l5,T,s6,M,l6,U,rfl,r,s⟩:=O;have C:=xgv r;have D:=xgv s;have a:=a.I p;have h:=nx h p;obtain⟨r1,r2,r3,r4,r5,r6,r7,r8⟩:=a.four;clear r s;go_wp2;have q:=a.lext4 dE 0 (.bool s5) (.slice L l5 T) (.bool s6) (.slice M l6 U);exact jQ rfl rfl rfl (a.put4 _ _ _ _) ⟨_,_,_,_,_,_,_,_,rfl,C.out.ext q,D.out.ext q⟩ (zA8 h oM 0 _ _ _ _))
theorem zSY{a:Nat}(C D:Value)(p q:Rat)(w:World)(h1:zAx w C p)(l:zAx w D q)(e:HQ a p)(f:HQ b q)(a0:a+b+1<=1000000):Calls Tryz.prog 131 #[C,D] w (zBW w (p+q)):=by
 obtain⟨j,k,e3,m,e5⟩:=HQ.ints e f;have r:((p.den:Int)).natAbs<2^a:=by rw[zQ];exact e.2
 have s:((q.den:Int)).natAbs<2^b:=by rw[zQ];exact f.2
 have E:qS (∀(u1 v:Value) (w:World),zCR w u1 (p.num,(p.den:Int))->zCR w v (q.num,(q.den:Int))->Calls Tryz.prog 155 #[.agg #[.func (.func 159) #[u1] #[]],v] w (zBW w (p+q))):=⟨fun u1 v w A B=>by
  rw[zGj];exact zQE (.inl rfl) u1 v q.num q.den _ _ w B (fun a7 W hW hu=>zRc u1 a7 p.num p.den q.num q.den W (A.I hW) hu (jX e.1 oM) (jX r oM) (jX f.1 oM) (jX s oM) (jX j oM) (jX k oM))
   (jX (zWQ j k) oM) (jX m oM) (zFr p q)⟩
 clear j k e3 m e5 r s e f a0;obtain⟨s1,a1,l1,A,s2,a2,l2,B,rfl,u,x⟩:=h1;obtain⟨s3,a3,l3,k3,s4,a4,l4,k4,rfl,i3,i4⟩:=id l;have h:=xgv u;have i:=xgv x;have g:=xgv l;clear u x i3 i4 l;go_enter Tryz.func131,Tryz.ntmps131;go_upto_region 1 with(fail)
 refine zE ?_;intro J n;obtain⟨d,H,I,c,a9⟩:=zBB n;have h:=xgv (h.out.ext (lx d));have i:=xgv (i.out.ext (lx d));have g:=xgv (g.out.ext (lx d));obtain⟨c1,c2,c3,M,N,O,P,Q⟩:=H.four;obtain⟨R,S,T,U,V,X,Y,Z⟩:=I.four;clear n;go_wp2_with fail
 refine(E.out _ _ J ⟨_,_,_,_,_,_,_,_,rfl,h.out,i.out⟩ g.out).mono ?_;rintro a8 w2 ⟨rv,rfl,hr,o⟩;obtain⟨s5,K,l5,k5,s6,L,l6,k6,rfl,y,z⟩:=hr;have F:=xgv y;have G:=xgv z;have c:=c.I o;have hB:=nx d o;obtain⟨r1,r2,r3,r4,r5,r6,r7,r8⟩:=c.four;clear y z c1 c2 c3 M N O P Q R S T U V X Y Z;go_wp2;have t:=c.lext4 dE 0 (.bool s5) (.slice K l5 k5) (.bool s6) (.slice L l6 k6);exact jQ rfl rfl rfl (c.put4 _ _ _ _) ⟨_,_,_,_,_,_,_,_,rfl,F.out.ext t,G.out.ext t⟩ (zA8 hB oM 0 _ _ _ _)
theorem zSe{a:Nat}(B C:Value)(p q:Rat)(w:World)(h1:zAx w B p)(j:zAx w C q)(e:HQ a p)(f:HQ b q)(a0:a+b+1<=1000000):Calls Tryz.prog 132 #[B,C] w (zBW w (p*q)):=by
 obtain⟨Z,e2,k,l,e5⟩:=HQ.ints e f;have o:((p.den:Int)).natAbs<2^a:=by rw[zQ];exact e.2
 have r:((q.den:Int)).natAbs<2^b:=by rw[zQ];exact f.2
 have D:qS (∀(u1 v:Value) (w:World),zCR w u1 (p.num,(p.den:Int))->zCR w v (q.num,(q.den:Int))->Calls Tryz.prog 155 #[.agg #[.func (.func 160) #[u1] #[]],v] w (zBW w (p*q))):=⟨fun u1 v w z A=>by
  rw[zGs];exact zQE (.inr (.inl rfl)) u1 v q.num q.den _ _ w A (fun a7 W hW hu=>zRg u1 a7 p.num p.den q.num q.den W (z.I hW) hu (jX e.1 oM) (jX o oM) (jX f.1 oM) (jX r oM))
   (jX k oM) (jX l oM) (zFr p q)⟩
 clear Z e2 k l e5 o r e f a0;obtain⟨s1,a1,l1,z,s2,a2,l2,A,rfl,t,u⟩:=h1;obtain⟨s3,a3,l3,k3,s4,a4,l4,k4,rfl,i3,i4⟩:=id j;have h:=xgv t;have i:=xgv u;have g:=xgv j;clear t u i3 i4 j;go_enter Tryz.func132,Tryz.ntmps132;go_upto_region 1 with(fail)
 refine zE ?_;intro I m;obtain⟨d,G,H,c,a9⟩:=zBB m;have h:=xgv (h.out.ext (lx d));have i:=xgv (i.out.ext (lx d));have g:=xgv (g.out.ext (lx d));obtain⟨c1,c2,c3,L,M,N,O,P⟩:=G.four;obtain⟨Q,R,S,T,U,V,X,Y⟩:=H.four;clear m;go_wp2_with fail
 refine(D.out _ _ I ⟨_,_,_,_,_,_,_,_,rfl,h.out,i.out⟩ g.out).mono ?_;rintro a8 w2 ⟨rv,rfl,hr,n⟩;obtain⟨s5,J,l5,k5,s6,K,l6,k6,rfl,x,y⟩:=hr;have E:=xgv x;have F:=xgv y;have c:=c.I n;have hB:=nx d n;obtain⟨r1,r2,r3,r4,r5,r6,r7,r8⟩:=c.four;clear x y c1 c2 c3 L M N O P Q R S T U V X Y;go_wp2;have s:=c.lext4 dE 0 (.bool s5) (.slice J l5 k5) (.bool s6) (.slice K l6 k6);exact jQ rfl rfl rfl (c.put4 _ _ _ _) ⟨_,_,_,_,_,_,_,_,rfl,E.out.ext s,F.out.ext s⟩ (zA8 hB oM 0 _ _ _ _)
theorem zNZ(w:World){h i:Value}(f:yA w h z)(g:yA w i 1):∃s a l c e b d c',h= .agg #[.bool s,.slice a l c]/\i= .agg #[.bool e,.slice b d c']/\zAx w (.agg #[.bool s,.slice a l c,.bool e,.slice b d c']) (z:Rat):=by
 obtain⟨s,a,l,c,rfl⟩:=f.parts;obtain⟨e,b,d,c',rfl⟩:=g.parts;exact⟨s,a,l,c,e,b,d,c',rfl,rfl,_,_,_,_,_,_,_,_,rfl,by rw[Rat.num_intCast];exact f,by rw[Rat.den_intCast];exact g⟩
theorem zG2(v:Value)(z:Int)(w:World)(h:yA w v z)(q:Sm z):Calls Tryz.prog 122 #[v] w (zBW w (z:Rat)):=by
 obtain⟨Y,L,O,N,rfl⟩:=h.parts;have H:=xgv h;have S:=xgv q;have t:qS (∀(d:Value) (w:World),yA w d z->Calls Tryz.prog 72 #[d,.agg #[.bool false,.slice none 0 0]] w (zBk w z)):=⟨fun d w k=>by
  have:=zEu d (.agg #[.bool false,.slice none 0 0]) z 0 w k.J (zCe w).J S.out (zFG (z:=0) dE).sm;rwa[jN]at this⟩
 clear h q;go_enter Tryz.func122,Tryz.ntmps122;go_upto_region 1 with(fail)
 refine zE ?_;intro B j;obtain⟨i,A,b,M⟩:=jW j;obtain⟨c1,c2,c3,E⟩:=A.two;clear j;go_wp2_with fail
 refine(t.out _ B (H.out.ext (lx i))).mono ?_;rintro e J ⟨u,rfl,r,m⟩;have y:=xgv r;have b:=b.I m;have f:=nx i m;clear r;go_wp2_with fail
 refine(zDt 1 J dE dE).mono ?_;rintro e K ⟨o,rfl,n,g⟩;obtain⟨s,a,l,c,I,C,G,D,rfl,rfl,p⟩:=zNZ K (y.out.ext (lx g)) n;have x:=xgv p;have b:=b.I g;have f:=nx f g;obtain⟨P,Q,R,T,U,V,W,X⟩:=b.four;clear n p c1 c2 c3 E;go_wp2;have F:=b.lext4 dE 0 (.bool s) (.slice a l c) (.bool I) (.slice C G D);exact jQ rfl rfl rfl (b.put4 _ _ _ _) (x.out.ext F) (zA8 f oM 0 _ _ _ _)
theorem zQf(F G:Value)(n d:Int)(w:World)(p:yA w F n)(q:yA w G d)(D:Sm n)(E:Sm d)(x:d≠0):
  Calls Tryz.prog 120 #[F,G] w fun e w'=>∃v,e= .returned (.tuple #[v,.int .i64 0])/\zAx w' v (Rat.divInt n d)/\Below w.heap.size w w':=by
 obtain⟨n1,X,l1,k1,rfl⟩:=p.parts;obtain⟨n2,Y,l2,k2,rfl⟩:=q.parts;obtain⟨k,t⟩:∃k,zAB d 0=k:=⟨_,rfl⟩;have O:k≠0:=by rw[<-t];unfold zAB;split<;>(try split)<;>omega
 have Z:(k==0)=false:=by simpa using O
 have I:qS (∀(v:Value) (w:World),yA w v d->Calls Tryz.prog 76 #[v] w fun e w'=>e= .returned (.int .i64 k)/\Below w.heap.size w w'):=⟨fun v w u=>t ▸ zAn v d w u.J⟩;have H:qS (∀(v:Value) (w:World),zCR w v (n,d)->Calls Tryz.prog 152 #[v] w (zBW w (Rat.divInt n d))):=⟨fun v w u=>zJA v n d w u D E x⟩;have f:=xgv p;have b:=xgv q;clear p q D E x t;go_enter Tryz.func120,Tryz.ntmps120;go_upto_region 1 with(fail)
 refine zE ?_;intro L y;obtain⟨s,g,h,a,a0⟩:=zBB y;have f:=xgv (f.out.ext (lx s));have b:=xgv (b.out.ext (lx s));obtain⟨c1,c2,c3,i⟩:=g.two;obtain⟨j,l,m,o⟩:=h.two;clear y;go_wp2_with fail
 refine(I.out _ L b.out).mono ?_;rintro e W ⟨rfl,c⟩;have g:=g.I c;have h:=h.I c;have a:=a.I c;have f:=xgv (f.out.ext (lx c));have b:=xgv (b.out.ext (lx c));have r:=nx s c;clear c1 c2 c3 i j l m o;obtain⟨c1,c2,c3,i⟩:=g.two;obtain⟨j,l,m,o⟩:=h.two;go_wp2_with fail
 refine(H.out _ W ⟨_,_,_,_,_,_,_,_,rfl,f.out,b.out⟩).mono ?_;rintro e w2 ⟨rv,rfl,P,z⟩;obtain⟨U,M,S,Q,V,N,T,R,rfl,B,C⟩:=P;have J:=xgv B;have K:=xgv C;have a:=a.I z;have r:=nx r z;obtain⟨r1,r2,r3,r4,r5,r6,r7,r8⟩:=a.four;clear B C c1 c2 c3 i j l m o;go_wp2;have A:=a.lext4 dE 0 (.bool U) (.slice M S Q) (.bool V) (.slice N T R);exact bodyPost_ret (zEJ rfl _ rfl (a.put4 _ _ _ _) rfl) rfl ⟨_,rfl,⟨_,_,_,_,_,_,_,_,rfl,J.out.ext A,K.out.ext A⟩,zA8 r oM 0 _ _ _ _⟩
theorem zQj(v:Value)(q:Rat)(w:World)(h:zAx w v q):Calls Tryz.prog 153 #[v] w fun e w'=>e= .returned (.int .i64 (zAB q.num 0))/\Below w.heap.size w w':=by
 obtain⟨D,o,B,z,E,p,C,A,rfl,b,f⟩:=h;dsimp only at b f;obtain⟨k,a⟩:∃k,zAB q.num 0=k:=⟨_,rfl⟩;rw[a];have g:qS (∀(v:Value) (w:World),yA w v q.num->Calls Tryz.prog 76 #[v] w fun e w'=>e= .returned (.int .i64 k)/\Below w.heap.size w w'):=⟨fun v w n=>a ▸ zAn v _ w n.J⟩;have i:=xgv b;clear b f a;go_enter Tryz.func153,Tryz.ntmps153;go_upto_region 1 with(fail)
 refine zE ?_;intro l d;obtain⟨c,j,y⟩:=qL d;obtain⟨c1,c2,c3,r,s,t,u,x⟩:=j.four;clear d;go_wp2_with fail
 refine(g.out _ l (i.out.ext (lx c))).mono ?_;rintro e F ⟨rfl,m⟩;go_wp2;go_ret;exact⟨rfl,nx c m⟩
theorem zEm(v:Value)(q:Rat)(w:World)(h:zAx w v q):Calls Tryz.prog 81 #[v] w fun e w'=>∃u,e= .returned u/\u= .bool (isZ q)/\Below w.heap.size w w':=by
 obtain⟨U,G,S,Q,V,H,T,R,rfl,p,l⟩:=h;dsimp only at p l;obtain⟨b,g⟩:∃b,isZ q=b:=⟨_,rfl⟩;obtain⟨k,i⟩:∃k,zAB (q.den:Int) 1=k:=⟨_,rfl⟩;have t:qS ((k==0)=b):=⟨by
  rw[<-g,<-i];unfold isZ zAB;have:=q.den_nz;by_cases e:(q.den:Int)=1
  .rw[e];rfl
  rw[zR e];split;rfl;rw[zC oM];rfl⟩
 have s:qS (∀(a c:Value) (w:World),yA w a (q.den:Int)->yA w c 1->Calls Tryz.prog 96 #[a,c] w fun e w'=>∃v,e= .returned v/\v= .int .i64 k/\Below w.heap.size w w'):=⟨fun a c w A B=>(zLx a c _ 1 w A.J B.J).mono fun e w' ⟨x,y⟩=>⟨_,x,by rw[i],y⟩⟩;have d:=xgv l;rw[g];clear p l i g;go_enter Tryz.func81,Tryz.ntmps81;go_upto_region 1 with(fail)
 refine zE ?_;intro F n;obtain⟨m,z,P⟩:=qL n;obtain⟨c1,c2,c3,I,J,L,M,N⟩:=z.four;have d:=xgv (d.out.ext (lx m));clear n;refine zBK [pcI 2 (1),pcD 3 [2] (fun _ v=>v= .int .i64 k)] ?_;refine sRd ?_;refine sRc (fun E hI r f=>by go_simp;exact ck f (zDt 1 _ dE dE)) (fun W _=>?_);refine sRc (fun E hI o r f=>?_) (fun _ j=>?_)
 .go_simp
  refine(s.out _ _ _ (d.out.ext (lx hI.bel)) o).mono ?_;rintro e Y ⟨v,rfl,j,C⟩;exact⟨_,rfl,f _ _ j,C⟩
 obtain⟨_,-,rfl⟩:=j;refine sRq (fun K hK=>?_);have O:=t.out;go_simp;refine hK _ ?_;clear hK K;refine sRd ?_;refine sRe ?_;intro X D o _;go_wp2;go_ret;exact⟨_,rfl,rfl,nx m D⟩
theorem zSa{a:Nat}(V X:Value)(p q:Rat)(w:World)(h1:zAx w V p)(G:zAx w X q)(m:HQ a p)(n:HQ b q)(a0:a+b+1<=1000000)(F:q≠0):
  Calls Tryz.prog 121 #[V,X] w fun e w'=>∃v,e= .returned (.tuple #[v,.int .i64 0])/\zAx w' v (p/q)/\Below w.heap.size w w':=by
 obtain⟨I,e2,e3,e4,J⟩:=HQ.ints m n;have M:((p.den:Int)).natAbs<2^a:=by rw[zQ];exact m.2
 have N:((q.den:Int)).natAbs<2^b:=by rw[zQ];exact n.2
 have Y:qS (∀(u1 v:Value) (w:World),zCR w u1 (p.num,(p.den:Int))->zCR w v (q.num,(q.den:Int))->Calls Tryz.prog 155 #[.agg #[.func (.func 154) #[u1] #[]],v] w (zBW w (p/q))):=⟨fun u1 v w T U=>by
  rw[zGl];exact zQE (.inr (.inr rfl)) u1 v q.num q.den _ _ w U (fun a8 W hW hu=>zRd u1 a8 p.num p.den q.num q.den W (T.I hW) hu (jX m.1 oM) (jX M oM) (jX n.1 oM) (jX N oM))
   (jX I oM) (jX J oM) (Int.mul_ne_zero (zGC p) (zKs F))⟩
 obtain⟨k,H⟩:∃k,zAB q.num 0=k:=⟨_,rfl⟩;have a7:k≠0:=by rw[<-H];have:=zKs F;unfold zAB;split<;>(try split)<;>omega
 have a9:(k==0)=false:=by simpa using a7
 have Z:qS (∀(v:Value) (w:World),zAx w v q->Calls Tryz.prog 153 #[v] w fun e w'=>e= .returned (.int .i64 k)/\Below w.heap.size w w'):=⟨fun v w hv=>H ▸ zQj v q w hv⟩;clear I e2 e3 e4 J M N m n a0 H F;obtain⟨s1,a1,l1,T,s2,a2,l2,U,rfl,P,Q⟩:=h1;obtain⟨s3,a3,l3,k3,s4,a4,l4,k4,rfl,i3,i4⟩:=id G;have h:=xgv P;have i:=xgv Q;have f:=xgv G;clear P Q i3 i4 G;go_enter Tryz.func121,Tryz.ntmps121;go_upto_region 1 with(fail)
 refine zE ?_;intro W0 K;obtain⟨g,j,l,c,b0⟩:=zBB K;have h:=xgv (h.out.ext (lx g));have i:=xgv (i.out.ext (lx g));have f:=xgv (f.out.ext (lx g));obtain⟨c1,c2,c3,o,r,s,t,u⟩:=j.four;obtain⟨x,y,z,A,B,C,D,E⟩:=l.four;clear K;go_wp2_with fail
 refine(Z.out _ W0 f.out).mono ?_;rintro e w1 ⟨rfl,d⟩;have j:=j.I d;have l:=l.I d;have c:=c.I d;have h:=xgv (h.out.ext (lx d));have i:=xgv (i.out.ext (lx d));have f:=xgv (f.out.ext (lx d));have g:=nx g d;clear c1 c2 c3 o r s t u x y z A B C D E;obtain⟨c1,c2,c3,o,r,s,t,u⟩:=j.four;obtain⟨x,y,z,A,B,C,D,E⟩:=l.four;go_wp2_with fail
 refine(Y.out _ _ w1 ⟨_,_,_,_,_,_,_,_,rfl,h.out,i.out⟩ f.out).mono ?_;rintro e w2 ⟨rv,rfl,hr,L⟩;obtain⟨s5,a5,l5,k5,s6,a6,l6,k6,rfl,R,S⟩:=hr;have I5:=xgv R;have I6:=xgv S;have c:=c.I L;have hB:=nx g L;obtain⟨r1,r2,r3,r4,r5,r6,r7,r8⟩:=c.four;clear R S c1 c2 c3 o r s t u x y z A B C D E;go_wp2;have O:=c.lext4 dE 0 (.bool s5) (.slice a5 l5 k5) (.bool s6) (.slice a6 l6 k6);exact bodyPost_ret (zEJ rfl _ rfl (c.put4 _ _ _ _) rfl) rfl ⟨_,rfl,⟨_,_,_,_,_,_,_,_,rfl,I5.out.ext O,I6.out.ext O⟩,zA8 hB oM 0 _ _ _ _⟩
def zKI(p:Int × Int):Bool:=decide (0<p.2/\Int.gcd p.1 p.2=1)
theorem zUP(q:Rat):zKI (q.num,(q.den:Int))=true:=by
 unfold zKI;rw[decide_eq_true_eq];exact⟨zRX q,zUk q⟩
theorem zOX(v:Value)(p:Int × Int)(w:World)(h:zCR w v p)(M:Sm p.1)(N:Sm p.2):Calls Tryz.prog 99 #[v] w fun e w'=>∃u,e= .returned u/\u= .bool (zKI p)/\Below w.heap.size w w':=by
 obtain⟨n,d⟩:=p;obtain⟨n1,a1,l1,Q,n2,a2,l2,R,rfl,K,L⟩:=h;dsimp only at K L M N;obtain⟨b,z⟩:∃b,zKI (n,d)=b:=⟨_,rfl⟩;obtain⟨k,I⟩:∃k,zAB d 0=k:=⟨_,rfl⟩;have y:qS (k<=0↔d<=0):=⟨by rw[<-I];unfold zAB;split<;>(try split)<;>omega⟩;have V:qS (∀(v:Value) (w:World),yA w v d->Calls Tryz.prog 76 #[v] w fun e w'=>e= .returned (.int .i64 k)/\Below w.heap.size w w'):=⟨fun v w hv=>I ▸ zAn v d w hv.J⟩;obtain⟨g,G⟩:∃g:Int,((Int.gcd n d:Nat):Int)=g:=⟨_,rfl⟩;have U:qS (∀(j l:Value) (w:World),yA w j n->yA w l d->Calls Tryz.prog 130 #[j,l] w (zBk w g)):=⟨fun j l w Q R=>G ▸ zPj j l n d w Q R M N⟩;obtain⟨m,J⟩:∃m,zAB g 1=m:=⟨_,rfl⟩;have S:qS (∀(j l:Value) (w:World),yA w j g->yA w l 1->Calls Tryz.prog 96 #[j,l] w fun e w'=>e= .returned (.int .i64 m)/\Below w.heap.size w w'):=⟨fun j l w X x=>J ▸ zLx j l _ 1 w X.J x.J⟩;have D:qS (d<=0->b=false):=⟨fun h=>by rw[<-z];unfold zKI;exact zR fun x=>by have:=x.1;dsimp only at this;omega⟩;have E:qS (¬ d<=0->(m==0)=b):=⟨fun h=>by
  rw[<-z,<-J,<-G];unfold zKI zAB;by_cases e:Int.gcd n d=1
  .rw[zT (show 0<(n,d).2/\Int.gcd (n,d).1 (n,d).2=1 from⟨by dsimp only;omega,e⟩),e];rfl
  rw[zR fun x=>e x.2];split;rfl;rw[zC oM];rfl⟩
 have c:=xgv K;have a:=xgv L;rw[z];clear K L I z G J M N;go_enter Tryz.func99,Tryz.ntmps99;go_upto_region 1 with(fail)
 refine zE ?_;intro W O;obtain⟨F,f,a5⟩:=qL O;obtain⟨c1,c2,c3,o,q,r,s,t⟩:=f.four;have c:=xgv (c.out.ext (lx F));have a:=xgv (a.out.ext (lx F));clear O;go_wp2_with fail
 refine(zGc _ _ W c.out).mono ?_;rintro e w1 ⟨rfl,A⟩;have f:=f.I A;have c:=xgv (c.out.ext (lx A));have a:=xgv (a.out.ext (lx A));have i:=nx F A;clear c1 c2 c3 o q r s t;obtain⟨c1,c2,c3,o,q,r,s,t⟩:=f.four;go_wp2_with fail
 refine(zGc _ _ w1 a.out).mono ?_;rintro e w2 ⟨rfl,B⟩;have f:=f.I B;have c:=xgv (c.out.ext (lx B));have a:=xgv (a.out.ext (lx B));have i:=nx i B;clear c1 c2 c3 o q r s t;obtain⟨c1,c2,c3,o,q,r,s,t⟩:=f.four;go_wp2_with fail
 refine(V.out _ w2 a.out).mono ?_;rintro e w3 ⟨rfl,C⟩;have f:=f.I C;have c:=xgv (c.out.ext (lx C));have a:=xgv (a.out.ext (lx C));have i:=nx i C;clear c1 c2 c3 o q r s t;obtain⟨c1,c2,c3,o,q,r,s,t⟩:=f.four;by_cases hd:d<=0
 .have a3:=y.out.2 hd
  have a0:=D.out hd;clear y D E;subst a0;go_wp2;go_ret;exact⟨_,rfl,rfl,i⟩
 have a4:=E.out oM;have a3:¬ k<=0:=fun h=>hd (y.out.1 h)
 clear y D E hd;go_wp2_with fail
 refine(U.out _ _ w3 c.out a.out).mono ?_;rintro e w4 ⟨gv,rfl,H,Y⟩;obtain⟨gs,ga,gl,gc,rfl⟩:=H.parts;have T:=xgv H;have i:=nx i Y;clear H;go_wp2_with fail
 refine(zDt 1 w4 dE dE).mono ?_;rintro e w5 ⟨a6,rfl,ho,P⟩;have i:=nx i P;go_wp2_with fail
 refine(S.out _ _ w5 (T.out.ext (lx P)) ho).mono ?_;rintro e w6 ⟨rfl,Z⟩;go_wp2;go_ret;exact⟨_,rfl,rfl,nx i Z⟩
structure zWs(w:World)(f:Value)(R C:Nat)(S U V W X:List (List Int)):Prop where
 ex:∃s u v x y,f= .agg #[niq R,niq C,s,niq R,niq R,u,niq R,niq R,v,niq C,niq C,x,niq C,niq C,y]/\zBl w s S/\zBl w u U/\zBl w v V/\zBl w x W/\zBl w y X
def zEt(w:World)(v:Value)(ls:List Int):Prop:=
 ∃ao n cap,v= .slice ao n cap/\ls.length=n/\n<=cap/\cap<=9223372036854775807/\(∀z∈ls,-9223372036854775808<=z/\z<=9223372036854775807)∧
  (ls≠ []->∃(b:Nat) (cs:Array Value),ao=some ⟨b,0,none⟩/\w.heap[b]?=some (.cells cs 2 (0,0))/\∀(k:Nat) (z:Int),ls[k]?=some z->cs[k]?=some (niq z))
theorem zEt.I(h:zEt w v ls)(m:BWq w w'):zEt w' v ls:=by
 obtain⟨ao,n,cap,f,g,i,j,k,l⟩:=h;refine⟨ao,n,cap,f,g,i,j,k,fun o=>?_⟩;obtain⟨b,c,d,a,e⟩:=l o;exact⟨b,c,d,(m.block _ (Array.getElem?_eq_some_iff.1 a).1).trans a,e⟩
theorem zEt.cell(h:zEt w (.slice ao n cap) ls)(c:k<ls.length):
  ∃b z,ao=some ⟨b,0,none⟩/\b<w.heap.size/\ls[k]?=some z/\w.cell? ⟨b,k,none⟩=some (niq z)/\-9223372036854775808<=z/\z<=9223372036854775807:=by
 obtain⟨o,v,p,i,s,t,u,j,l⟩:=h;injection i with g q r
 subst g;obtain⟨b,f,e,d,m⟩:=l (by rintro rfl;simp at c);have a:=xga c;have:=j _ (xgd a);exact⟨b,_,e,(Array.getElem?_eq_some_iff.1 d).1,a,(cell_of_row w b k f _ _ d).trans (m k _ a),this.1,this.2⟩
end Go.Proofs.YtniiekppgdkknaaGreat
