/- Joined. -/
import Derived.Test.YtkidaebmhlijlaaGreatE13
import Derived.Test.YtkidaebmhlijlaaGreatE14
set_option linter.unusedVariables false
set_option linter.unusedSimpArgs false
set_option linter.unusedSectionVars false
set_option maxHeartbeats 16000000
set_option maxRecDepth 100000
variable{e:Bool}{bs:List Nat}{B C Cs Ct R b base bw i j n:Nat}{F:Nat->Nat->Int}{Z:Nat->Prop}{A Ah:Go.Value}{w w':Go.World}
namespace Go.Proofs.YtkidaebmhlijlaaGreat
open Go.RowKit
def okW(B R C Cu Cw:Nat)(z:W5):Prop:=okF B R C z.s/\okF B R Cu z.u/\okF B R Cu z.v/\okF B C Cw z.w/\okF B C Cw z.x
theorem qH.fresh{M:List (List Int)}(h:qH w base A C bs M)(a:Zn A bs b):base<=b:=by
 rcases a with a|a
 .obtain⟨k,c,e⟩:=qZ a
  exact(h.row k b (M[k]'(by rw[h.len];exact c)) (by rw[xga c,e]) (xga _)).1
 rcases h.own.2 with⟨rfl,-⟩|⟨g,d,f,rfl,i,-⟩
 cases a;simp only[Value.ownBlock,Option.some.injEq]at a;omega
section
variable {w w':World} {base wb RS CS R C Cu Cw:Nat} {AS AU AV AW AX:Value} {bS bU bV bW bX:List Nat} {z:W5}
theorem zCu.band1(h:zCu w base wb R C R C Cu Cw AS AU AV AW AX bS bU bV bW bX z):zCh (fun b=>Zn AS bS b∨Zn AU bU b∨Zn AV bV b) w AS AU AV R C Cu ⟨z.s,z.u,z.v⟩:=
 ⟨⟨bS,bU,bV,⟨h.mS,h.mU,h.mV,h.su.far,h.sv.far,h.uv.far,h.su.own,h.sv.own,h.uv.own⟩,fun b hb=>by
  rcases hb with hb|hb|hb
  exact .inl (.inl hb);exact .inr (.inl (.inl hb));exact .inr (.inr (.inl hb))⟩,fun g hg=>by
  rcases hg with hg|hg|hg
  exact .inl (.inr hg);exact .inr (.inl (.inr hg));exact .inr (.inr (.inr hg))⟩
theorem zCu.zlt1(h:zCu w base wb RS CS R C Cu Cw AS AU AV AW AX bS bU bV bW bX z):∀b,(Zn AS bS b∨Zn AU bU b∨Zn AV bV b)->b<w.heap.size:=by
 rintro b (a|a|a);exact h.mS.zlt a;exact h.mU.zlt a;exact h.mV.zlt a
theorem zCu.after1(h:zCu w base wb R C R C Cu Cw AS AU AV AW AX bS bU bV bW bX z){x:Bst}(j:qK (fun b=>Zn AS bS b∨Zn AU bU b∨Zn AV bV b) w w')(e:zCh (fun b=>Zn AS bS b∨Zn AU bU b∨Zn AV bV b) w' AS AU AV R C Cu x):
  (∃f g i,zCu w' base wb R C R C Cu Cw AS AU AV AW AX f g i bW bX ⟨x.s,x.t,x.i,z.w,z.x⟩)/\qK (fun b=>base<=b) w w':=by
 obtain⟨⟨f,g,i,⟨n,o,p,v,y,A,B,D,E⟩,r⟩,q⟩:=e;have s:∀b,Zn AS f b->Zn AS bS b∨Zn AU bU b∨Zn AV bV b:=fun b a=>a.elim (fun c=>r b (.inl c)) (fun c=>q b (.inl c))
 have t:∀b,Zn AU g b->Zn AS bS b∨Zn AU bU b∨Zn AV bV b:=fun b a=>a.elim (fun c=>r b (.inr (.inl c))) (fun c=>q b (.inr (.inl c)))
 have u:∀b,Zn AV i b->Zn AS bS b∨Zn AU bU b∨Zn AV bV b:=fun b a=>a.elim (fun c=>r b (.inr (.inr c))) (fun c=>q b (.inr (.inr c)))
 have l:∀b,(Zn AS bS b∨Zn AU bU b∨Zn AV bV b)->¬ Zn AW bW b:=by
  rintro b (a|a|a) d;exact h.sw b a d;exact h.uw b a d;exact h.vw b a d
 have m:∀b,(Zn AS bS b∨Zn AU bU b∨Zn AV bV b)->¬ Zn AX bX b:=by
  rintro b (a|a|a) d;exact h.sx b a d;exact h.ux b a d;exact h.vx b a d
 have k:∀b,(Zn AS bS b∨Zn AU bU b∨Zn AV bV b)->base<=b:=by
  rintro b (a|a|a);exact h.zb b (.inl a);exact h.zb b (.inr (.inl a));exact h.zb b (.inr (.inr (.inl a)))
 refine⟨⟨f,g,i,⟨j.blk h.blk ?_,h.wbb,n,o,p,h.mW.keepZ j (fun b a e=>l b e a),h.mX.keepZ j (fun b a e=>m b e a),?_,Ap.of n o v B,Ap.of n p y D,fun b a=>l b (s b a),fun b a=>m b (s b a),Ap.of o p A E,
  fun b a=>l b (t b a),fun b a=>m b (t b a),fun b a=>l b (u b a),fun b a=>m b (u b a),h.wx⟩⟩,j.mono (fun b _ a=>k b a)⟩
 .rintro(c|c|c)
  .exact h.mS.nwb h.blk c
  exact h.mU.nwb h.blk c;exact h.mV.nwb h.blk c
 rintro b (a|a|a|a|a);exact k b (s b a);exact k b (t b a);exact k b (u b a);exact h.zb b (.inr (.inr (.inr (.inl a))));exact h.zb b (.inr (.inr (.inr (.inr a))))
theorem zCu.band2(h:zCu w base wb C R R C Cu Cw AS AU AV AW AX bS bU bV bW bX z):zCh (fun b=>Zn AS bS b∨Zn AW bW b∨Zn AX bX b) w AS AW AX C R Cw ⟨z.s,z.w,z.x⟩:=
 ⟨⟨bS,bW,bX,⟨h.mS,h.mW,h.mX,h.sw.far,h.sx.far,h.wx.far,h.sw.own,h.sx.own,h.wx.own⟩,fun b hb=>by
  rcases hb with hb|hb|hb
  exact .inl (.inl hb);exact .inr (.inl (.inl hb));exact .inr (.inr (.inl hb))⟩,fun g hg=>by
  rcases hg with hg|hg|hg
  exact .inl (.inr hg);exact .inr (.inl (.inr hg));exact .inr (.inr (.inr hg))⟩
theorem zCu.zlt2(h:zCu w base wb RS CS R C Cu Cw AS AU AV AW AX bS bU bV bW bX z):∀b,(Zn AS bS b∨Zn AW bW b∨Zn AX bX b)->b<w.heap.size:=by
 rintro b (a|a|a);exact h.mS.zlt a;exact h.mW.zlt a;exact h.mX.zlt a
theorem zCu.after2(h:zCu w base wb C R R C Cu Cw AS AU AV AW AX bS bU bV bW bX z){x:Bst}(i:qK (fun b=>Zn AS bS b∨Zn AW bW b∨Zn AX bX b) w w')(f:zCh (fun b=>Zn AS bS b∨Zn AW bW b∨Zn AX bX b) w' AS AW AX C R Cw x):
  (∃g y A,zCu w' base wb C R R C Cu Cw AS AU AV AW AX g bU bV y A ⟨x.s,z.u,z.v,x.t,x.i⟩)/\qK (fun b=>base<=b) w w':=by
 obtain⟨⟨g,u,v,⟨m,n,o,B,D,E,F,G,H⟩,q⟩,p⟩:=f;have r:∀b,Zn AS g b->Zn AS bS b∨Zn AW bW b∨Zn AX bX b:=fun b a=>a.elim (fun c=>q b (.inl c)) (fun c=>p b (.inl c))
 have s:∀b,Zn AW u b->Zn AS bS b∨Zn AW bW b∨Zn AX bX b:=fun b a=>a.elim (fun c=>q b (.inr (.inl c))) (fun c=>p b (.inr (.inl c)))
 have t:∀b,Zn AX v b->Zn AS bS b∨Zn AW bW b∨Zn AX bX b:=fun b a=>a.elim (fun c=>q b (.inr (.inr c))) (fun c=>p b (.inr (.inr c)))
 have k:∀b,(Zn AS bS b∨Zn AW bW b∨Zn AX bX b)->¬ Zn AU bU b:=by
  rintro b (a|a|a) e;exact h.su b a e;exact h.uw b e a;exact h.ux b e a
 have l:∀b,(Zn AS bS b∨Zn AW bW b∨Zn AX bX b)->¬ Zn AV bV b:=by
  rintro b (a|a|a) e;exact h.sv b a e;exact h.vw b e a;exact h.vx b e a
 have j:∀b,(Zn AS bS b∨Zn AW bW b∨Zn AX bX b)->base<=b:=by
  rintro b (a|a|a);exact h.zb b (.inl a);exact h.zb b (.inr (.inr (.inr (.inl a))));exact h.zb b (.inr (.inr (.inr (.inr a))))
 refine⟨⟨g,u,v,⟨i.blk h.blk ?_,h.wbb,m,h.mU.keepZ i (fun b a f=>k b f a),h.mV.keepZ i (fun b a f=>l b f a),n,o,?_,fun b a=>k b (r b a),fun b a=>l b (r b a),Ap.of m n B F,Ap.of m o D G,h.uv,
  fun b a d=>k b (s b d) a,fun b a d=>k b (t b d) a,fun b a d=>l b (s b d) a,fun b a d=>l b (t b d) a,Ap.of n o E H⟩⟩,i.mono (fun b _ a=>j b a)⟩
 .rintro(c|c|c)
  .exact h.mS.nwb h.blk c
  exact h.mW.nwb h.blk c;exact h.mX.nwb h.blk c
 rintro b (a|a|a|a|a);exact j b (r b a);exact h.zb b (.inr (.inl a));exact h.zb b (.inr (.inr (.inl a)));exact j b (s b a);exact j b (t b a)
theorem zCu.setS(h:zCu w base wb RS CS R C Cu Cw AS AU AV AW AX bS bU bV bW bX z){e d:Nat}{c:Value}{g:List Nat}(l:Wri w c e d g F)(k:∀b,Zn c g b->n<=b)(j:∀b,Zn AU bU b∨Zn AV bV b∨Zn AW bW b∨Zn AX bX b->b<n)(q:base<=n):
  zCu (((w.setCell ⟨wb,0,none⟩ (.int .i64 e)).setCell ⟨wb,1,none⟩ (.int .i64 d)).setCell ⟨wb,2,none⟩ c) base wb e d R C Cu Cw c AU AV AW AX g bU bV bW bX ⟨F,z.u,z.v,z.w,z.x⟩∧
   qK (fun b=>base<=b) w (((w.setCell ⟨wb,0,none⟩ (.int .i64 e)).setCell ⟨wb,1,none⟩ (.int .i64 d)).setCell ⟨wb,2,none⟩ c):=by
 have s:zBq w (((w.setCell ⟨wb,0,none⟩ (.int .i64 e)).setCell ⟨wb,1,none⟩ (.int .i64 d)).setCell ⟨wb,2,none⟩ c):=h.blk.lext3 dE _ _ _;have f:qK (fun b=>b=wb) w (((w.setCell ⟨wb,0,none⟩ (.int .i64 e)).setCell ⟨wb,1,none⟩ (.int .i64 d)).setCell ⟨wb,2,none⟩ c):=
  ⟨yB (yB (yB (zC _ _) (zH _) _ _) (zH _) _ _) (zH _) _ _,s,fun b _ a=>zAm _ _ _ _ _ _ a⟩
 have p:=((h.blk.set_ 0 (.int .i64 e)).set_ 1 (.int .i64 d)).set_ 2 c;have i:∀{A:Value} {bs:List Nat},(∀b,Zn A bs b->b<n)->Ap c g A bs:=fun r b m o=>by
  have:=k b m;have:=r b o;omega
 refine⟨⟨by simpa using p,h.wbb,l.keepZ f ?_,h.mU.keepZ f ?_,h.mV.keepZ f ?_,h.mW.keepZ f ?_,h.mX.keepZ f ?_,?_,i (fun b a=>j b (.inl a)),i (fun b a=>j b (.inr (.inl a))),i (fun b a=>j b (.inr (.inr (.inl a)))),i (fun b a=>j b (.inr (.inr (.inr a)))),h.uv,h.uw,h.ux,h.vw,h.vx,h.wx⟩,f.mono ?_⟩;rintro b a rfl;exact l.nwb h.blk a;rintro b a rfl;exact h.mU.nwb h.blk a;rintro b a rfl;exact h.mV.nwb h.blk a;rintro b a rfl;exact h.mW.nwb h.blk a;rintro b a rfl;exact h.mX.nwb h.blk a
 .rintro b (a|a)
  .exact zD q (k b a)
  exact h.zb b (.inr a)
 rintro b-rfl;exact h.wbb
theorem zCu.zltR(h:zCu w base wb RS CS R C Cu Cw AS AU AV AW AX bS bU bV bW bX z):∀b,Zn AU bU b∨Zn AV bV b∨Zn AW bW b∨Zn AX bX b->b<w.heap.size:=by
 rintro b (a|a|a|a);exact h.mU.zlt a;exact h.mV.zlt a;exact h.mW.zlt a;exact h.mX.zlt a
end
theorem Wri.shape(h:Wri w A R C bs F):∃o c,A= .slice o R c:=by
 obtain⟨e,b,d,rfl,a,-⟩:=id (qH.rows h);obtain rfl:R=b:=by rw[<-a];simp[genM]
 exact⟨_,_,rfl⟩
theorem zLt(m:BSm B)(h:Wri w A R C bs F)(u:okF B R C F)(p:R<=1000000)(n:C<=1000000):
  CPq 151 #[.agg #[niq R,niq C,A]] w fun e w'=>∃o c d,e= .returned (.agg #[niq C,niq R,.slice o C c])/\Wri w' (.slice o C c) C R d (trF F)/\(∀b,Zn (.slice o C c) d b->w.heap.size<=b)/\BWq w w':=by
 refine(zGr _ R C (genM R C F) w h.mat (jJ R C F) p n ?_).mono ?_
 .intro r k z y
  unfold genM at k;obtain⟨i,s,rfl⟩:=List.mem_map.1 k;obtain⟨j,t,rfl⟩:=List.mem_map.1 y;exact m.sm _ (u i (yP.1 s) j (yP.1 t))
 rintro e w' ⟨v,d,rfl,⟨D,l,rfl,g⟩,f⟩;have x:genM C R (fun a b=>ent (genM R C F) b a)=genM C R (trF F):=jX fun a q b f=>yZ f q
 rw[x]at g;obtain⟨o,c,rfl⟩:=Wri.shape (h:=(g.mono (zH _):Wri w' l C R d (trF F)));exact⟨o,c,d,rfl,g.mono (zH _),fun b f=>g.fresh f,f⟩
theorem zEt.shape{v:Value}{zs:List Int}(h:zEt w base v zs):∃o c,v= .slice o zs.length c:=by
 obtain⟨e,b,-⟩:=h;rcases b.2 with⟨rfl,a⟩|⟨g,d,f,rfl,-⟩
 exact⟨none,0,by rw[a]⟩;exact⟨_,_,rfl⟩
theorem zS7(m i:Nat)(F:Nat->Nat->Int):divI (m+1) i F=divI m (i+1) (divJ i m (i+1) F):=rfl
theorem zS8(i m j:Nat)(F:Nat->Nat->Int):divJ i (m+1) j F=divJ i m (j+1) (if F i i∣F j j then F else zI2 F i j):=rfl
theorem Exit.jump_normal{Q:Exit->Act->World->Prop}{a:Act}{l:Nat}{J:Act->World->Prop}:Exit.jump l J Q .normal a w=Q .normal a w:=rfl
theorem zJm:∀(d i:Nat),i+d=R->(zEx i ((genM R C F).drop i)=true↔∀a,i<=a->a<R->∀b,b<C->a≠b->F a b=0):=by
 intro d;induction d with
 |zero=>
  intro i h;have j:(genM R C F).drop i= []:=qP (by simp[genM];omega);rw[j];exact⟨fun _ a j l=>oM,fun _=>rfl⟩
 | succ d p=>
  intro i h;have m:i<R:=oM;rw[zDq (zDS R C F m)];unfold zEx;rw[zDU,decide_eq_true_eq,p (i+1) oM];have o:zG4 i ((List.range C).map (F i)).length ((List.range C).map (F i))↔∀b,b<C->i≠b->F i b=0:=by
   unfold zG4;rw[show((List.range C).map (F i)).length=C by simp];refine⟨fun g b f c=>?_,fun g k n c=>?_⟩
   .have:=g b f (qF c)
    rwa[show((List.range C).map (F i)).getD b 0=F i b by simp[xgb,f]]at this
   rw[show((List.range C).map (F i)).getD k 0=F i k by simp[xgb,n]];exact g k n (qF c)
  rw[o];refine⟨fun g a j l b f c=>?_,fun g=>⟨fun b f c=>g i (xgf _) m b f c,fun a j l b f c=>g a oM l b f c⟩⟩;by_cases e:a=i
  .subst e;exact g.1 b f c
  exact g.2 a oM l b f c
theorem zOd(R C:Nat)(F:Nat->Nat->Int):zEx 0 (genM R C F)=decide (zGi R C F):=by
 have h:=zJm (R:=R) (C:=C) (F:=F) R 0 oM;rw[xgk]at h;by_cases hd:zGi R C F
 .rw[zQ hd]
  exact h.2 (fun a _ b=>hd a b)
 rw[zT hd];cases c:zEx 0 (genM R C F)with
 |false=>rfl
 |true=>exact absurd (fun a b=>h.1 c a (zH _) b) hd
theorem zW8(hB:BSd B){M Cu Cw:Nat}{AS AU AV AW AX:Value}{bS bU bV bW bX:List Nat}{z:W5}(h:zCu w base M R C R C Cu Cw AS AU AV AW AX bS bU bV bW bX z)(m0:base<=w.heap.size)(a3:okW B R C Cu Cw z)
  (X:R<=1000000) (W:C<=1000000) (d5:Cu<=1000000) (d6:Cw<=1000000) {f rr:Nat} {y:W5} (T:zIV B R C Cu Cw f rr z=some y)
  (f2:∀y',zOR (min R C) y y'->∀i j,i<j->j<min R C->¬ y'.s i i∣y'.s j j->zSd B C Cu Cw y' i j) (f5:∀y',zOR (min R C) y y'->∀i,i<min R C->(y'.s i i).natAbs<B):
  CPq 115 #[ptq M 0] w fun e w'=>(∃u,e= .returned u)/\qK (fun b=>base<=b) w w'∧
   ∃b2 H I J K L y',zOR (min R C) y y'/\y'.s=divI (min R C) 0 y.s/\zCu w' base M R C R C Cu Cw b2 AU AV AW AX H I J K L y':=by
 have a6:=hB.bsm;obtain⟨uo,uc,rfl⟩:=h.mU.shape;obtain⟨vo,vc,rfl⟩:=h.mV.shape;obtain⟨wo,wc,rfl⟩:=h.mW.shape;obtain⟨xo,xc,rfl⟩:=h.mX.shape;have c9:=xgv f2;have b4:=xgv f5;have HH:=xgv h;have F:=xgv a3;have d3:=xgv T;clear f2 f5 h a3 T;go_enter Tryz.func115,Tryz.ntmps115;obtain⟨U,d7⟩:∃U:Nat->Act->World->Prop,∀r G wt,U r G wt↔∃(u5 u6 u7 u8 u9 u10 u11 u12 u13 u14 u15 u16 u17 u18 u19 u20 u21 u22 u23 u24 u25 u26 u27 u28 u29 u30 u31 u32 u33 u34 u35 u36 u37 u38 u39 u40 u41 u42 u43 u44 u45 u46 u47 u48 u49 u50 u51 u52 u53 u54 u55 u56 u57 u58 u59 u60 u61 u62 u63 u64 u65 u66 u67 u68 u69 u70 u71:Value),G={tmps:=#[ptq M 0,undef,undef,undef,undef,u5,u6,u7,u8,u9,u10,u11,u12,u13,u14,u15,u16,u17,u18,u19,u20,u21,u22,u23,u24,u25,u26,u27,u28,u29,u30,u31,u32,u33,u34,u35,u36,u37,u38,u39,u40,u41,u42,u43,u44,u45,u46,u47,u48,u49,u50,u51,u52,u53,u54,u55,u56,u57,u58,u59,u60,u61,u62,u63,u64,u65,u66,u67,u68,u69,u70,u71,undef,undef,undef,undef,undef,undef,undef,undef,undef,undef,undef,undef,undef,undef,undef,undef,undef,undef,undef,undef,undef,undef,undef,undef,undef,undef,undef,undef,undef,undef,undef,undef,undef,undef,undef,undef,undef,undef,undef,undef,undef,undef,undef,undef,undef,undef,undef,undef,undef],defers:=[]}∧
  qK (fun b=>base<=b) w wt/\jI (∃b2 H I J K L z',zCu wt base M R C R C Cu Cw b2 (.slice uo R uc) (.slice vo R vc) (.slice wo C wc) (.slice xo C xc) H I J K L z'/\okW B R C Cu Cw z'/\zIV B R C Cu Cw f r z'=some y):=⟨_,fun _ _ _=>yF⟩
 have a5:=xgv d7;clear d7;refine zKh (fun G wt=>∃r,U r G wt) (fun G wt=>leastOf (fun r=>U r G wt)) ?_ ?_;exact⟨rr,(a5.out _ _ _).2 ⟨_,_,_,_,_,_,_,_,_,_,_,_,_,_,_,_,_,_,_,_,_,_,_,_,_,_,_,_,_,_,_,_,_,_,_,_,_,_,_,_,_,_,_,_,_,_,_,_,_,_,_,_,_,_,_,_,_,_,_,_,_,_,_,_,_,_,_,rfl,qK.refl _ _,⟨⟨AS,bS,bU,bV,bW,bX,z,HH.out,F.out,d3.out⟩⟩⟩⟩;intro G wr Q;obtain⟨f1,Q⟩:=Q;replace Q:=(zE1 (P:=fun r=>U r G wr) Q).1;generalize leastOf (fun r=>U r G wr)=f0 at Q ⊢
 rw[a5.out]at Q;obtain⟨u5,u6,u7,u8,u9,u10,u11,u12,u13,u14,u15,u16,u17,u18,u19,u20,u21,u22,u23,u24,u25,u26,u27,u28,u29,u30,u31,u32,u33,u34,u35,u36,u37,u38,u39,u40,u41,u42,u43,u44,u45,u46,u47,u48,u49,u50,u51,u52,u53,u54,u55,u56,u57,u58,u59,u60,u61,u62,u63,u64,u65,u66,u67,u68,u69,u70,u71,rfl,c,g7⟩:=Q;obtain⟨k4,k6,l0,l2,l4,l6,z0,hw,a3,T⟩:=g7.out;obtain⟨ao,ac,rfl⟩:=hw.mS.shape;clear g7 F d3 HH;cases f0 with
 |zero=>cases T
 | succ r=>
  unfold zIV at T;rw[zAW]at T;obtain⟨l,b9,E⟩:=T;unfold zQb at b9;rw[zAW]at b9;obtain⟨e1,f3,h2⟩:=b9;rw[zAW]at h2;obtain⟨e2,f4,d⟩:=h2;injection d with d
  have d4:=xgv d;have a1:=xgv E;have d0:=xgv f3;have d1:=xgv f4;have F:=xgv a3;have a:=xgv hw;clear E f3 f4 d a3;obtain⟨g,p,t,v,x,q,s,-,-,-⟩:=hw.blk.fifteen;have A:=hw.blk.lt;clear hw;go_upto_region 0 with(fail)
  refine yA 19 [] ?_;refine sRd ?_;refine sRf ?_;intro w1 e7;have c:=c.trans (qK.of _ e7);have a:=xgv (a.out.I e7);clear g p t v x q s A;go_wp2_with fail
  refine(zJt a6 a.out.zlt1 a.out.band1 ⟨F.out.1,F.out.2.1,F.out.2.2.1⟩ X W d5 d0.out).mono ?_;rintro e w2 ⟨⟨n4,rfl⟩,h9,h4,g4⟩;obtain⟨⟨k7,l1,l3,a8⟩,i0⟩:=a.out.after1 h9 h4;have c:=c.trans i0;have o:=xgv a8;have Z:=xgv g4;obtain⟨g,p,t,v,x,q,s,c1,c2,c3⟩:=a8.blk.fifteen;have A:=a8.blk.lt;clear a8 g4 h4 a;go_wp2_with fail
  refine(zLt a6 o.out.mS Z.out.1 X W).mono ?_;rintro e w3 ⟨so,sc,l8,rfl,g8,f6,a2⟩;have g:=jP g a2;obtain⟨q0,q1,q2,q5,q8,c4,c5,c6,c7,c8⟩:=(o.out.I a2).blk.fifteen;have a4:=(o.out.I a2).setS g8 f6 o.out.zltR (by have:=o.out.wbb;omega);have O:=xgv a4;have n2:=a2.size;clear g p t v x q s c1 c2 c3 a4 g8 f6;go_upto_region 2 with(fail)
  refine zF ?_;intro W4 e0;rw[<-e0.out]at O;obtain⟨a9,d8⟩:=O.out;have c:=(c.trans (qK.of _ a2)).trans d8;have a:=xgv a9;obtain⟨g,p,t,v,x,q,s,-,-,-⟩:=a9.blk.fifteen;have A:=a9.blk.lt;clear a9 d8 O q0 q1 q2 q5 q8 c4 c5 c6 c7 c8 e0 o;refine yA 19 [] ?_;refine sRd ?_;refine sRf ?_;intro w5 e8;have c:=c.trans (qK.of _ e8);have a:=xgv (a.out.I e8);clear g p t v x q s A;have g6:okF B C R (trF e1.s):=fun b5 ha b hb=>Z.out.1 b hb b5 ha
  go_wp2_with fail
  refine(zJt a6 a.out.zlt2 a.out.band2 ⟨g6,F.out.2.2.2.1,F.out.2.2.2.2⟩ W X d6 d1.out).mono ?_;rintro e w6 ⟨⟨n5,rfl⟩,i3,h5,g5⟩;obtain⟨⟨k9,l5,l7,b0⟩,i4⟩:=a.out.after2 i3 h5;have c:=c.trans i4;have o:=xgv b0;have a0:=xgv g5;obtain⟨g,p,t,v,x,q,s,c1,c2,c3⟩:=b0.blk.fifteen;have A:=b0.blk.lt;clear b0 g5 h5 a g6;go_wp2_with fail
  refine(zLt a6 o.out.mS a0.out.1 W X).mono ?_;rintro e w7 ⟨h7,h6,l9,rfl,g9,f7,b6⟩;obtain⟨q0,q1,q2,q5,q8,c4,c5,c6,c7,c8⟩:=(o.out.I b6).blk.fifteen;have a4:=(o.out.I b6).setS g9 f7 o.out.zltR (by have:=o.out.wbb;omega);have O:=xgv a4;clear g p t v x q s c1 c2 c3 a4 g9 f7;go_upto_region 4 with(fail)
  refine zF ?_;intro W8 e3;rw[<-e3.out]at O;obtain⟨Y,d9⟩:=O.out;have c:=(c.trans (qK.of _ b6)).trans d9;have c0:(⟨trF e2.s,e1.t,e1.i,e2.t,e2.i⟩:W5)=l:=d4.out;replace Y:zCu W8 base M R C R C Cu Cw _ _ _ _ _ _ _ _ _ _ l:=c0 ▸ Y;have g3:okW B R C Cu Cw l:=c0 ▸ ⟨fun b5 ha b hb=>a0.out.1 b hb b5 ha,Z.out.2.1,Z.out.2.2,a0.out.2.1,a0.out.2.2⟩;have a:=xgv Y;have d2:=xgv g3;obtain⟨g,p,t,v,x,q,s,-,-,-⟩:=Y.blk.fifteen;have A:=Y.blk.lt;clear Y g3 c0 d4 d9 O q0 q1 q2 q5 q8 c4 c5 c6 c7 c8 e3 o F Z a0 d0 d1;go_wp2_with fail
  refine(zNK _ R C (genM R C l.s) W8 a.out.mS.mat).mono ?_;rintro e w9 ⟨rfl,e6⟩;rw[zOd];have c:=c.trans (qK.of _ e6);have a:=xgv (a.out.I e6);clear g p t v x q s A;have E:=a1.out;clear a1;by_cases hd:zGi R C l.s
  .rw [zB hd]at E
   injection E with E
   subst E;rw[zQ hd];clear hd;obtain⟨g,p,t,v,x,q,s,-,-,-⟩:=a.out.blk.fifteen;have A:=a.out.blk.lt;go_wp2_with fail
   refine(zIm _ R C (genM R C l.s) w9 a.out.mS.mat (jJ _ _ _) X W).mono ?_;rintro e n6 ⟨u10,rfl,h0,e4⟩;obtain⟨eo,ec,rfl⟩:=h0.shape;rw[zF8];have c:=c.trans (qK.of _ e4);have a:=xgv (a.out.I e4);clear g p t v x q s A h0;obtain⟨n,hn⟩:∃n,n=min R C:=⟨_,rfl⟩;rw[<-hn];have n1:n<=R:=oM;have n0:n<=C:=oM;rw[<-hn]at c9 b4;have HN:=xgv hn;clear hn;go_wp2;go_loopw [80] (fun iv wt=>∃(i:Nat) (H I J K L:List Nat) (y':W5),iv=niq i/\i<=n/\qK (fun b=>base<=b) w wt/\jI (zCu wt base M R C R C Cu Cw (.slice h7 R h6) (.slice uo R uc) (.slice vo R vc) (.slice wo C wc) (.slice xo C xc) H I J K L y'/\zOR n l y'/\divI (n-i) i y'.s=divI n 0 l.s)) (fun iv _=>n-(intOf iv).toNat)
   case atStart=>exact⟨0,_,_,_,_,_,l,rfl,zH _,c,⟨⟨a.out,zOR.refl _,by rw[Nat.sub_zero]⟩⟩⟩
   rename World=>wq
   obtain⟨i,H,I,J,K,L,y',rfl,hi,c,k⟩:=hrel;by_cases i8:i<n
   .go_wp2
    go_loopw [4] (fun jv wt=>∃(j:Nat) (H I J K L:List Nat) (y':W5),jv=niq j/\i+1<=j/\j<=n/\qK (fun b=>base<=b) w wt/\jI (zCu wt base M R C R C Cu Cw (.slice h7 R h6) (.slice uo R uc) (.slice vo R vc) (.slice wo C wc) (.slice xo C xc) H I J K L y'/\zOR n l y'/\divI (n-(i+1)) (i+1) (divJ i (n-j) j y'.s)=divI n 0 l.s)) (fun jv _=>n-(intOf jv).toNat)
    case atStart=>
     refine⟨i+1,_,_,_,_,_,y',by simp,oM,oM,c,⟨⟨k.out.1,k.out.2.1,?_⟩⟩⟩;have d:=k.out.2.2;obtain⟨m,hm⟩:∃m,n-i=m+1:=⟨n-i-1,oM⟩;rw[hm,zS7]at d;rw[show n-(i+1)=m by omega];exact d
    rename World=>wt
    obtain⟨j,H,I,J,K,L,y',rfl,m9,hj,c,k⟩:=hrel;by_cases b8:j<n
    .have d:=k.out.2.2
     obtain⟨m,hm⟩:∃m,n-j=m+1:=⟨n-j-1,oM⟩;have g1:n-(j+1)=m:=oM;rw[hm,zS8]at d;rw[<-g1]at d;have D:=xgv d;have N:=xgv k.out.2.1;have a:=xgv k.out.1;have S1:jI (Smd (y'.s i i)):=⟨hB.smd _ (b4.out y' N.out i i8)⟩;have S2:jI (Smd (y'.s j j)):=⟨hB.smd _ (b4.out y' N.out j b8)⟩;clear d hm g1 k;have f8:i<R:=oM;have b7:j<R:=oM;have i7:i<C:=oM;have f9:j<C:=oM;obtain⟨gs,bi,V,m8,i5,m5,o1,-⟩:=qH.at_ a.out.mS (i:=i) (by rw[a.out.mS.len];exact f8);subst V;obtain⟨g2,bj,V,m7,i6,m6,o2,-⟩:=qH.at_ a.out.mS (i:=j) (by rw[a.out.mS.len];exact b7);obtain rfl:gs=g2:=by injection V with V;injection V
     clear V;obtain⟨xs,xa,xl,n9,p1,p2,-,-,hx⟩:=(a.out.mS.rowAt f8 i5).cell (yO i7);obtain⟨ys,ya,yl,yc,r1,r2,-,-,hy⟩:=(a.out.mS.rowAt b7 i6).cell (yO f9);obtain⟨g,p,t,v,x,q,s,-,-,-⟩:=a.out.blk.fifteen;have A:=a.out.blk.lt;go_upto_region 12 with(fail)
     refine yA 24 [] ?_;refine sRd ?_;refine sRf ?_;intro wv a7;have c:=c.trans (qK.of _ a7);have a:=xgv (a.out.I a7);have hx:=hx.ext (lx a7);have hy:=hy.ext (lx a7);clear g p t v x q s A o1 o2 p1 p2 r1 r2;go_wp2_with fail
     refine(zOi _ _ (y'.s i i) (y'.s j j) wv hx hy S1.out S2.out).mono ?_;rintro e n7 ⟨rfl,e5⟩;have c:=c.trans (qK.of _ e5);have a:=xgv (a.out.I e5);have d:=D.out;clear hx hy D;by_cases S:y'.s i i∣y'.s j j
     .rw[zB S]at d
      rw[zQ S];have D:=xgv d;clear d S;go_wp2;go_roundw
      case rel=>exact⟨j+1,_,_,_,_,_,y',by simp,oM,oM,c,⟨⟨a.out,N.out,D.out⟩⟩⟩
      case measure=>exact meq
     rw[zA S]at d;rw[zT S];have D:=xgv d;have b3:=xgv S;clear d S;go_wp2_with fail
     refine(zPq hB a.out oM b7 f9 X W d5 d6 (c9.out y' N.out i j oM b8 b3.out)).mono ?_;rintro e n8 ⟨⟨n3,rfl⟩,h8,i9,k3,e9,h1⟩;have c:=c.trans h8;have a:=xgv h1;have N:=xgv (zOR.step l y' i j i9 k3 N.out oM b8 b3.out e9);clear h1 e9 b3;go_wp2;go_roundw
     case rel=>exact⟨j+1,_,_,_,_,_,_,by simp,oM,oM,c,⟨⟨a.out,N.out,D.out⟩⟩⟩
     case measure=>exact meq
    obtain rfl:j=n:=oM;have d:=k.out.2.2;rw[zAL]at d;have D:=xgv (show divI (j-(i+1)) (i+1) y'.s=divI j 0 l.s from d);clear d;go_wp2;go_roundw
    case rel=>exact⟨i+1,_,_,_,_,_,y',by simp,oM,c,⟨⟨k.out.1,k.out.2.1,D.out⟩⟩⟩
    case measure=>exact meq
   obtain rfl:i=n:=oM;have d:=k.out.2.2;rw[zAL]at d;have D:=xgv (show y'.s=divI i 0 l.s from d);clear d;go_wp2;rw[<-HN.out];rw[Exit.jump_normal];exact bodyPost_end (results_none rfl _ _ _) rfl ⟨⟨_,rfl⟩,c,_,_,_,_,_,_,y',k.out.2.1,D.out,k.out.1⟩
  rw[zA hd]at E;rw[zT hd];have a1:=xgv E;clear hd E;go_wp2;go_step3;refine⟨rfl,⟨r,(a5.out _ _ _).2 ⟨_,_,_,_,_,_,_,_,_,_,_,_,_,_,_,_,_,_,_,_,_,_,_,_,_,_,_,_,_,_,_,_,_,_,_,_,_,_,_,_,_,_,_,_,_,_,_,_,_,_,_,_,_,_,_,_,_,_,_,_,_,_,_,_,_,_,_,rfl,c,⟨⟨_,_,_,_,_,_,_,a.out,d2.out,a1.out⟩⟩⟩⟩,zFL ((a5.out _ _ _).2 ⟨_,_,_,_,_,_,_,_,_,_,_,_,_,_,_,_,_,_,_,_,_,_,_,_,_,_,_,_,_,_,_,_,_,_,_,_,_,_,_,_,_,_,_,_,_,_,_,_,_,_,_,_,_,_,_,_,_,_,_,_,_,_,_,_,_,_,_,rfl,c,⟨⟨_,_,_,_,_,_,_,a.out,d2.out,a1.out⟩⟩⟩) (zA0 r)⟩
theorem zW4(bw:Nat)(Ah Au Av mv:Value)(n Cs Ct i j:Nat)(R S Q:List Nat)(a8 T a7:Nat->Nat->Int)(m0 m1 m2 m3:Int)(w:World)(c4:Blk w bw tHW #[Ah,Au,Av])(h:zFx w Ah Au Av n Cs Ct R S Q a8 T a7)(C:i<n)(N:j<n)(b4:i≠j)(hm:M4V w mv m0 m1 m2 m3)
  (D:n<=1000000) (e0:Cs<=1000000) (b8:Ct<=1000000) (hS:zSc Cs (a8 i) (a8 j) m0 m1 m2 m3) (hT:zSc Ct (T i) (T j) m0 m1 m2 m3) (hI:zSc Ct (a7 i) (a7 j) m3 (-m2) (-m1) m0) (P:Sm m0/\Sm m1/\Sm m2/\Sm m3):
  CPq 145 #[ptq bw 0,niq i,niq j,mv] w fun e w'=>(∃u,e= .returned u)/\qK (fun b=>b∈R∨b∈S∨b∈Q) w w'/\Blk w' bw tHW #[Ah,Au,Av]∧
   zFx w' Ah Au Av n Cs Ct R S Q (jQ a8 i j m0 m1 m2 m3) (jQ T i j m0 m1 m2 m3) (jQ a7 i j m3 (-m2) (-m1) m0):=by
 obtain⟨so,sn,sc,rfl,s1,s2,s3,-⟩:=id (qH.rows h.s);obtain⟨uo,tn,tc,rfl,t1,t2,t3,-⟩:=id (qH.rows h.t);obtain⟨io,e5,ic,rfl,i1,i2,i3,-⟩:=id (qH.rows h.i);have HS:=xgv hS;have HT:=xgv hT;have HI:=xgv hI;have HK:=xgv P;have d0:Sm m3/\Sm (-m2)/\Sm (-m1)/\Sm m0:=⟨P.2.2.2,P.2.2.1.mono (by rw[zY];exact xgf _),P.2.1.mono (by rw[zY];exact xgf _),P.1⟩;have d9:=xgv d0;obtain⟨n0,a0,l0,c0,n1,a1,l1,c1,n2,a2,l2,c2,n3,a3,l3,c3,rfl,E,F,G,H⟩:=id hm;have t:=xgv (And.intro E (And.intro F (And.intro G H)));clear hS hT hI P hm d0 E F G H;obtain⟨k,l,m,V,U,W,b6,b5,b7⟩:=h;have d7:=xgv b6;have d6:=xgv b5;have d8:=xgv b7;clear b6 b5 b7;have e1:n=sn:=by rw[<-s1];simp[genM]
 have e2:n=tn:=by rw[<-t1];simp[genM]
 have e3:n=e5:=by rw[<-i1];simp[genM]
 subst e1;subst e2;subst e3;clear s1 t1 i1;obtain⟨gs,_,rfl,-⟩:=qH.at_ k (i:=i) (by rw[k.len];exact C);obtain⟨gt,_,rfl,-⟩:=qH.at_ l (i:=i) (by rw[l.len];exact C);obtain⟨gi,_,rfl,-⟩:=qH.at_ m (i:=i) (by rw[m.len];exact C);have O:∀b,b∈R∨b∈S∨b∈Q->b<w.heap.size:=fun b hb=>by
  rcases hb with hb|hb|hb
  exact(k.blk hb).elim fun d2 hr=>hr.lt
  exact(l.blk hb).elim fun d2 hr=>hr.lt
  exact(m.blk hb).elim fun d2 hr=>hr.lt
 go_enter Tryz.func145,Tryz.ntmps145;go_upto_region 1 with(fail)
 refine zF ?_;intro W0 b9;obtain⟨Z,v,g3⟩:=qJ b9;have s:=c4.I Z;have k:=k.I Z;have l:=l.I Z;have m:=m.I Z;have d:=qK.of (fun b=>b∈R∨b∈S∨b∈Q) Z;have f7:=zEG m3 (-m2);have f8:=zEG (-m1) m0;have f9:=zGV m3 (-m2) (-m1) m0;clear b9 c4;obtain⟨X,bi,q,c7,z,a4,o1,-⟩:=qH.at_ k (i:=i) (by rw[k.len];exact C);obtain⟨Y,bj,r,c8,A,a5,o2,-⟩:=qH.at_ k (i:=j) (by rw[k.len];exact N);obtain rfl:gs=X:=by injection q with q;injection q
 obtain rfl:gs=Y:=by injection r with r;injection r
 clear q r a4 a5;have f:=xgd z;have g:=xgd A;obtain⟨ri,L⟩:=k.blk f;obtain⟨rj,M⟩:=k.blk g;have x1:=s.three;obtain⟨k0,k1,k2,k3,k4,k5,k6,k7⟩:=v.eight;have d1:=s.lt;have lm:=v.lt;have E:=t.out.1.ext d.lext;have F:=t.out.2.1.ext d.lext;have G:=t.out.2.2.1.ext d.lext;have H:=t.out.2.2.2.ext d.lext;refine yA 15 [] ?_;refine sRd ?_;refine sRf ?_;intro w8 y;have J:=k.I y;have o:=L.I y;have p:=M.I y;clear o1 o2 x1 k0 k1 k2 k3 k4 k5 k6 k7;go_wp2_with fail
 refine(zGT J C N b4 z A ⟨_,_,_,_,_,_,_,_,_,_,_,_,_,_,_,_,rfl,E.ext (lx0 y),F.ext (lx0 y),G.ext (lx0 y),H.ext (lx0 y)⟩ e0 HS.out HK.out).mono ?_;rintro e w9 ⟨⟨u,rfl⟩,a,K⟩;have a9:w.heap.size≠bi:=by have:=O bi (by simp[f]);omega
 have b0:w.heap.size≠bj:=by have:=O bj (by simp[g]);omega
 have s:=(s.I y).row2 a o p dE;have v:Blk w9 w.heap.size 191 #[.bool n0,.slice a0 l0 c0,.bool n1,.slice a1 l1 c1,.bool n2,.slice a2 l2 c2,.bool n3,.slice a3 l3 c3]:=(v.I y).row2 a o p dE;have d:=(d.trans (qK.of _ y)).trans (⟨a.bel,a.lext,fun a6 hk D=>a.old a6 hk (by simp;exact⟨fun e=>D (by rw[e];simp[f]),fun e=>D (by rw[e];simp[g])⟩)⟩:qK _ w8 w9);have l:=(l.I y).only2 a (fun c=>V _ f c) (fun c=>V _ g c) o p;have m:=(m.I y).only2 a (fun c=>U _ f c) (fun c=>U _ g c) o p;have k:=K;clear a o L p M J K f g a9 b0 z A;go_upto_region 2 with(fail)
 obtain⟨X,ci,q,c7,z,a4,o1,-⟩:=qH.at_ l (i:=i) (by rw[l.len];exact C);obtain⟨Y,cj,r,c8,A,a5,o2,-⟩:=qH.at_ l (i:=j) (by rw[l.len];exact N);obtain rfl:gt=X:=by injection q with q;injection q
 obtain rfl:gt=Y:=by injection r with r;injection r
 clear q r a4 a5;have f:=xgd z;have g:=xgd A;obtain⟨ri,L⟩:=l.blk f;obtain⟨rj,M⟩:=l.blk g;have x1:=s.three;obtain⟨k0,k1,k2,k3,k4,k5,k6,k7⟩:=v.eight;have d1:=s.lt;have lm:=v.lt;have E:=t.out.1.ext d.lext;have F:=t.out.2.1.ext d.lext;have G:=t.out.2.2.1.ext d.lext;have H:=t.out.2.2.2.ext d.lext;refine yA 15 [] ?_;refine sRd ?_;refine sRf ?_;intro e8 x;have J:=l.I x;have o:=L.I x;have p:=M.I x;clear o1 o2 x1 k0 k1 k2 k3 k4 k5 k6 k7;go_wp2_with fail
 refine(zGT J C N b4 z A ⟨_,_,_,_,_,_,_,_,_,_,_,_,_,_,_,_,rfl,E.ext (lx0 x),F.ext (lx0 x),G.ext (lx0 x),H.ext (lx0 x)⟩ b8 HT.out HK.out).mono ?_;rintro e d3 ⟨⟨u,rfl⟩,a,K⟩;have a9:w.heap.size≠ci:=by have:=O ci (by simp[f]);omega
 have b0:w.heap.size≠cj:=by have:=O cj (by simp[g]);omega
 have s:=(s.I x).row2 a o p dE;have v:Blk d3 w.heap.size 191 #[.bool n0,.slice a0 l0 c0,.bool n1,.slice a1 l1 c1,.bool n2,.slice a2 l2 c2,.bool n3,.slice a3 l3 c3]:=(v.I x).row2 a o p dE;have d:=(d.trans (qK.of _ x)).trans (⟨a.bel,a.lext,fun a6 hk D=>a.old a6 hk (by simp;exact⟨fun e=>D (by rw[e];simp[f]),fun e=>D (by rw[e];simp[g])⟩)⟩:qK _ e8 d3);have k:=(k.I x).only2 a (fun c=>V _ c f) (fun c=>V _ c g) o p;have m:=(m.I x).only2 a (fun c=>W _ f c) (fun c=>W _ g c) o p;have l:=K;clear a o L p M J K f g a9 b0 z A;go_upto_region 3 with(fail)
 obtain⟨X,di,q,c7,z,a4,o1,-⟩:=qH.at_ m (i:=i) (by rw[m.len];exact C);obtain⟨Y,dj,r,c8,A,a5,o2,-⟩:=qH.at_ m (i:=j) (by rw[m.len];exact N);obtain rfl:gi=X:=by injection q with q;injection q
 obtain rfl:gi=Y:=by injection r with r;injection r
 clear q r a4 a5;have f:=xgd z;have g:=xgd A;obtain⟨ri,L⟩:=m.blk f;obtain⟨rj,M⟩:=m.blk g;have x1:=s.three;obtain⟨k0,k1,k2,k3,k4,k5,k6,k7⟩:=v.eight;have d1:=s.lt;have lm:=v.lt;have E:=t.out.1.ext d.lext;have F:=t.out.2.1.ext d.lext;have G:=t.out.2.2.1.ext d.lext;have H:=t.out.2.2.2.ext d.lext;refine yA 31 [pcI 20 (-m2),pcD 21 [20] (M2V m3 (-m2)),pcI 25 (-m1),pcD 29 [25] (M2V (-m1) m0),pcD 30 [21,29] (fun w e6=>M4V w e6 m3 (-m2) (-m1) m0)] ?_;refine sRd ?_;refine sRc (fun wS hI Gk B=>by go_simp;exact ck B (zBk _ m2 _ (G.ext hI.lext).J HK.out.2.2.1)) (fun h0 _=>?_);refine sRc (fun wS hI b2 Gk B=>?_) (fun h1 _=>?_)
 .obtain⟨e9,f1,f3,f5,h4,rfl,h6⟩:=id b2
  go_simp;exact⟨B _ _ ⟨_,_,_,_,_,_,_,_,rfl,H.ext hI.lext,b2⟩,zC _ _⟩
 refine sRd ?_;refine sRc (fun wS hI Gk B=>by go_simp;exact ck B (zBk _ m1 _ (F.ext hI.lext).J HK.out.2.1)) (fun h2 _=>?_);refine sRd ?_;refine sRc (fun wS hI b3 Gk B=>?_) (fun h3 _=>?_)
 .obtain⟨f0,f2,f4,f6,h5,rfl,h7⟩:=id b3
  go_simp;exact⟨B _ _ ⟨_,_,_,_,_,_,_,_,rfl,b3,E.ext hI.lext⟩,zC _ _⟩
 refine sRc (fun wS hI c5 c6 Gk B=>?_) (fun e7 _=>?_)
 .obtain⟨p0,p1,p2,p3,p4,p5,p6,p7,rfl,p8,p9⟩:=c5
  obtain⟨q0,q1,q2,q3,q4,q5,q6,q7,rfl,q8,q9⟩:=c6;go_simp;exact⟨B _ _ ⟨_,_,_,_,_,_,_,_,_,_,_,_,_,_,_,_,rfl,p8,p9,q8,q9⟩,zC _ _⟩
 refine sRe ?_;intro d4 I b2 c5 b3 c6 e4;have J:=m.I I;have o:=L.I I;have p:=M.I I;have c9:M4V d4 e7 m3 (-m2) (-m1) m0:=e4;obtain⟨p0,p1,p2,p3,p4,p5,p6,p7,p8,p9,g4,g5,g6,g7,g8,g9,rfl,-⟩:=id c9;clear o1 o2 x1 k0 k1 k2 k3 k4 k5 k6 k7 E F G H;go_wp2_with fail
 refine(zGT J C N b4 z A c9 b8 HI.out d9.out).mono ?_;rintro e d5 ⟨⟨u,rfl⟩,a,K⟩;have a9:w.heap.size≠di:=by have:=O di (by simp[f]);omega
 have b0:w.heap.size≠dj:=by have:=O dj (by simp[g]);omega
 have s:=(s.I I).row2 a o p dE;have v:Blk d5 w.heap.size 191 #[.bool n0,.slice a0 l0 c0,.bool n1,.slice a1 l1 c1,.bool n2,.slice a2 l2 c2,.bool n3,.slice a3 l3 c3]:=(v.I I).row2 a o p dE;have d:=(d.trans (qK.of _ I)).trans (⟨a.bel,a.lext,fun a6 hk D=>a.old a6 hk (by simp;exact⟨fun e=>D (by rw[e];simp[f]),fun e=>D (by rw[e];simp[g])⟩)⟩:qK _ d4 d5);have k:=(k.I I).only2 a (fun c=>U _ c f) (fun c=>U _ c g) o p;have l:=(l.I I).only2 a (fun c=>W _ c f) (fun c=>W _ c g) o p;go_wp2;exact bodyPost_end (results_none rfl _ _ _) rfl ⟨⟨_,rfl⟩,d,s,k,l,K,V,U,W,d7.out,d6.out,d8.out⟩
theorem zD8(t:TypeId)(n:Nat)(cs:Array Value)(k:Int)(j:Nat)(v:Value)(W:World)(h:Tryz.prog.underlying t=some (.array n tR))(c:k=(j:Int))(g:j<n)(hv:cs[j]?=some v):
  (Instr.index t (.agg cs) (niq k)).run Tryz.prog W= .ok v W:=by
 subst c;obtain⟨m,b,i,e,l⟩:=info_parts zDp;have a:(0:Int)<=(j:Int)/\(j:Int)<(n:Int):=oM;have d:=zCQ;simp[Instr.index,run_underlying h,asIntOf,a,part,isAgg,run_underlying d,sizeOf,typeInfo,b,e,hv,go_sem];intro f;omega
theorem zW5(bw:Nat)(Ah Au Av:Value)(n Cs Ct i:Nat)(X Y W:List Nat)(p q o:Nat->Nat->Int)(w:World)(a6:Blk w bw tHW #[Ah,Au,Av])(h:zFx w Ah Au Av n Cs Ct X Y W p q o)(g:i<n)
  (Z:n<=1000000) (d2:Cs<=1000000) (d3:Ct<=1000000) (hS:∀a,a<n->∀b,b<Cs->Sm (p a b)) (hT:∀a,a<n->∀b,b<Ct->Sm (q a b)) (hI:∀a,a<n->∀b,b<Ct->Sm (o a b)):
  CPq 146 #[ptq bw 0,niq i] w fun e w'=>(∃u,e= .returned u)/\qK (fun b=>b∈X∨b∈Y∨b∈W) w w'/\Blk w' bw tHW #[Ah,Au,Av]∧
   zFx w' Ah Au Av n Cs Ct X Y W (zCq p i) (zCq q i) (zCq o i):=by
 obtain⟨so,sn,sc,rfl,s1,s2,s3,-⟩:=id (qH.rows h.s);obtain⟨uo,tn,tc,rfl,t1,t2,t3,-⟩:=id (qH.rows h.t);obtain⟨io,d0,ic,rfl,i1,i2,i3,-⟩:=id (qH.rows h.i);have HS:=xgv hS;have HT:=xgv hT;have HI:=xgv hI;clear hS hT hI;obtain⟨l,d,k,b0,a9,b2,b5,b4,b6⟩:=h;have c2:=xgv b5;have c1:=xgv b4;have c3:=xgv b6;clear b5 b4 b6;have e1:n=sn:=by rw[<-s1];simp[genM]
 have e2:n=tn:=by rw[<-t1];simp[genM]
 have e3:n=d0:=by rw[<-i1];simp[genM]
 subst e1;subst e2;subst e3;clear s1 t1 i1;obtain⟨gs,S,rfl,c5,a5,-,o1,-⟩:=qH.at_ l (i:=i) (by rw[l.len];exact g);obtain⟨gt,U,rfl,c6,a7,-,o2,-⟩:=qH.at_ d (i:=i) (by rw[d.len];exact g);obtain⟨gi,V,rfl,c4,a8,-,o3,-⟩:=qH.at_ k (i:=i) (by rw[k.len];exact g);have E:=qK.refl (fun b=>b∈X∨b∈Y∨b∈W) w;have x1:=a6.three;have d4:=a6.lt;go_enter Tryz.func146,Tryz.ntmps146;go_upto_region 0 with(fail)
 refine zBP [] ?_;refine sRd ?_;refine sRf ?_;intro w0 a2;have E:=E.trans (qK.of _ a2);have T:=a6.I a2;have l:=l.I a2;have d:=d.I a2;have k:=k.I a2;clear o1 o2 o3 x1 a6 c5 c6 c4;go_wp2;go_loopw [30] (fun mv wr=>∃m:Nat,m<=3/\mv=niq m/\qK (fun b=>b∈X∨b∈Y∨b∈W) w wr/\Blk wr bw tHW #[slq gs n sc,slq gt n tc,slq gi n ic]∧
  Wri wr (slq gs n sc) n Cs X (if 0<m then zCq p i else p)/\Wri wr (slq gt n tc) n Ct Y (if 1<m then zCq q i else q)/\Wri wr (slq gi n ic) n Ct W (if 2<m then zCq o i else o)) (fun mv _=>3-(intOf mv).toNat)
 case atStart=>exact⟨0,oM,rfl,E,T,l,d,k⟩
 clear E T l d k;obtain⟨m,hm,rfl,E,T,l,d,k⟩:=hrel;by_cases c7:m=0
 .subst c7
  rw[zA oM]at l d k;have z:=xgd a5;have O:=l.rowAt g a5;have b8:=fun a1=>zD8 193 3 #[slq S Cs Cs,slq U Ct Ct,slq V Ct Ct] 0 0 _ a1 zBJ rfl oM rfl
  have P:∀F:Nat->Int,yV Cs F=yV Cs (jD (fun t=>-F t) F 0):=fun F=>yH fun t _=>by unfold jD;rw[zA oM]
  rw[P]at O;clear P;go_wp2;go_loopw [35] (fun D wt=>∃j:Nat,j<=Cs/\D=niq j/\zB0 [S] wr wt/\(∃G,G=(fun t=>-p i t)/\jY wt S (yV Cs (jD G (p i) j)))) (fun D _=>Cs-(intOf D).toNat)
  case atStart=>exact⟨0,oM,rfl,zB0.refl _ _,_,rfl,O⟩
  rename World=>wt
  obtain⟨j,hj,rfl,c,G,K,f⟩:=hrel;have v:=xgv (congrFun K);clear K;have b7:=c.bel.size;by_cases r:j<Cs
  .obtain⟨xs,xa,xl,xc,v1,v2,-,-,s⟩:=f.cell (yO r)
   have a3:jD G (p i) j j=p i j:=by unfold jD;rw[zA oM]
   rw[a3]at s;have b9:=f.lt;go_upto_region 6 with(fail)
   refine zF ?_;intro W6 L;obtain⟨x,H,c0⟩:=qJ L;have d1:=H.two;have c:=c.trans (zB0.of [S] x);have f:=f.I x;have s:=s.ext (lx x);have l7:=H.lt;clear v1 v2 L;have a0:=xgv (HS.out i g j r);go_wp2_with fail
   refine(zBk _ (p i j) W6 s.J a0.out).mono ?_;rintro e w9 ⟨u,rfl,Q,M⟩;obtain⟨pn,pa,pl,pc,px,rfl,N⟩:=id Q;have b3:=xgw N;clear N;have R:=f.I M;obtain⟨zs,za,zl,zc,z1,z2,z3,z4,-⟩:=R.cell (yO r);have C:=R.set (k:=j) (by rw[qN];exact r) Q;have c:=c.trans (zB0.of [S] M);go_wp2;go_roundw
   case rel=>
    have A:(yV Cs (jD G (p i) j)).set j (-(p i j))=yV Cs (jD G (p i) (j+1)):=by
     rw[zEF];exact yH fun t _=>by
      unfold jD;by_cases J:t=j
      .subst J
       rw[zB rfl,zB oM,v.out]
      rw[zA J];by_cases I:t<j
      .rw[zB I,zB oM]
      rw[zA I,zA oM]
    rw[A]at C;refine⟨_,_,_,_,_,_,_,_,_,_,_,_,_,?_,rfl⟩;exact⟨j+1,oM,by simp,c.trans ⟨yB (yB (zC _ _) (zH _) _ _) (zH _) _ _,C.2,fun i _ g=>yL _ _ _ _ _ _ _ (by simpa using g)⟩,_,funext v.out,C.1⟩
   case measure=>exact meq
  obtain rfl:j=Cs:=oM;have A:yV j (jD G (p i) j)=yV j (fun t=>-p i t):=yH fun t d=>by unfold jD;rw[zB d];exact v.out t
  rw[A]at f;go_wp2;go_roundw
  case measure=>simp[intOf]
  have B:=l.rowAt g a5;exact⟨1,oM,by simp,E.trans ⟨c.bel,c.lext,fun a4 hk Z=>c.old a4 hk (by simp;rintro rfl;exact Z (.inl z))⟩,T.row c B dE,by simpa using l.negRow g a5 c f,by simpa using d.only c (fun y=>b0 _ z y) B,by simpa using k.only c (fun y=>a9 _ z y) B⟩
 by_cases c8:m=1
 .subst c8
  rw[zB oM]at l;rw[zA oM]at d k;have z:=xgd a7;have O:=d.rowAt g a7;have b8:=fun a1=>zD8 193 3 #[slq S Cs Cs,slq U Ct Ct,slq V Ct Ct] 1 1 _ a1 zBJ rfl oM rfl
  have P:∀F:Nat->Int,yV Ct F=yV Ct (jD (fun t=>-F t) F 0):=fun F=>yH fun t _=>by unfold jD;rw[zA oM]
  rw[P]at O;clear P;go_wp2;go_loopw [35] (fun D wt=>∃j:Nat,j<=Ct/\D=niq j/\zB0 [U] wr wt/\(∃G,G=(fun t=>-q i t)/\jY wt U (yV Ct (jD G (q i) j)))) (fun D _=>Ct-(intOf D).toNat)
  case atStart=>exact⟨0,oM,rfl,zB0.refl _ _,_,rfl,O⟩
  rename World=>wt
  obtain⟨j,hj,rfl,c,G,K,f⟩:=hrel;have v:=xgv (congrFun K);clear K;have b7:=c.bel.size;by_cases r:j<Ct
  .obtain⟨xs,xa,xl,xc,v1,v2,-,-,s⟩:=f.cell (yO r)
   have a3:jD G (q i) j j=q i j:=by unfold jD;rw[zA oM]
   rw[a3]at s;have b9:=f.lt;go_upto_region 6 with(fail)
   refine zF ?_;intro W6 L;obtain⟨x,H,c0⟩:=qJ L;have d1:=H.two;have c:=c.trans (zB0.of [U] x);have f:=f.I x;have s:=s.ext (lx x);have l7:=H.lt;clear v1 v2 L;have a0:=xgv (HT.out i g j r);go_wp2_with fail
   refine(zBk _ (q i j) W6 s.J a0.out).mono ?_;rintro e w9 ⟨u,rfl,Q,M⟩;obtain⟨pn,pa,pl,pc,px,rfl,N⟩:=id Q;have b3:=xgw N;clear N;have R:=f.I M;obtain⟨zs,za,zl,zc,z1,z2,z3,z4,-⟩:=R.cell (yO r);have C:=R.set (k:=j) (by rw[qN];exact r) Q;have c:=c.trans (zB0.of [U] M);go_wp2;go_roundw
   case rel=>
    have A:(yV Ct (jD G (q i) j)).set j (-(q i j))=yV Ct (jD G (q i) (j+1)):=by
     rw[zEF];exact yH fun t _=>by
      unfold jD;by_cases J:t=j
      .subst J
       rw[zB rfl,zB oM,v.out]
      rw[zA J];by_cases I:t<j
      .rw[zB I,zB oM]
      rw[zA I,zA oM]
    rw[A]at C;refine⟨_,_,_,_,_,_,_,_,_,_,_,_,_,?_,rfl⟩;exact⟨j+1,oM,by simp,c.trans ⟨yB (yB (zC _ _) (zH _) _ _) (zH _) _ _,C.2,fun i _ g=>yL _ _ _ _ _ _ _ (by simpa using g)⟩,_,funext v.out,C.1⟩
   case measure=>exact meq
  obtain rfl:j=Ct:=oM;have A:yV j (jD G (q i) j)=yV j (fun t=>-q i t):=yH fun t d=>by unfold jD;rw[zB d];exact v.out t
  rw[A]at f;go_wp2;go_roundw
  case measure=>simp[intOf]
  have B:=d.rowAt g a7;exact⟨2,oM,by simp,E.trans ⟨c.bel,c.lext,fun a4 hk Z=>c.old a4 hk (by simp;rintro rfl;exact Z ((fun h=>.inr (.inl h)) z))⟩,T.row c B dE,by simpa using l.only c (fun y=>b0 _ y z) B,by simpa using d.negRow g a7 c f,by simpa using k.only c (fun y=>b2 _ z y) B⟩
 by_cases c9:m=2
 .subst c9
  rw[zB oM]at l d;rw[zA oM]at k;have z:=xgd a8;have O:=k.rowAt g a8;have b8:=fun a1=>zD8 193 3 #[slq S Cs Cs,slq U Ct Ct,slq V Ct Ct] 2 2 _ a1 zBJ rfl oM rfl
  have P:∀F:Nat->Int,yV Ct F=yV Ct (jD (fun t=>-F t) F 0):=fun F=>yH fun t _=>by unfold jD;rw[zA oM]
  rw[P]at O;clear P;go_wp2;go_loopw [35] (fun D wt=>∃j:Nat,j<=Ct/\D=niq j/\zB0 [V] wr wt/\(∃G,G=(fun t=>-o i t)/\jY wt V (yV Ct (jD G (o i) j)))) (fun D _=>Ct-(intOf D).toNat)
  case atStart=>exact⟨0,oM,rfl,zB0.refl _ _,_,rfl,O⟩
  rename World=>wt
  obtain⟨j,hj,rfl,c,G,K,f⟩:=hrel;have v:=xgv (congrFun K);clear K;have b7:=c.bel.size;by_cases r:j<Ct
  .obtain⟨xs,xa,xl,xc,v1,v2,-,-,s⟩:=f.cell (yO r)
   have a3:jD G (o i) j j=o i j:=by unfold jD;rw[zA oM]
   rw[a3]at s;have b9:=f.lt;go_upto_region 6 with(fail)
   refine zF ?_;intro W6 L;obtain⟨x,H,c0⟩:=qJ L;have d1:=H.two;have c:=c.trans (zB0.of [V] x);have f:=f.I x;have s:=s.ext (lx x);have l7:=H.lt;clear v1 v2 L;have a0:=xgv (HI.out i g j r);go_wp2_with fail
   refine(zBk _ (o i j) W6 s.J a0.out).mono ?_;rintro e w9 ⟨u,rfl,Q,M⟩;obtain⟨pn,pa,pl,pc,px,rfl,N⟩:=id Q;have b3:=xgw N;clear N;have R:=f.I M;obtain⟨zs,za,zl,zc,z1,z2,z3,z4,-⟩:=R.cell (yO r);have C:=R.set (k:=j) (by rw[qN];exact r) Q;have c:=c.trans (zB0.of [V] M);go_wp2;go_roundw
   case rel=>
    have A:(yV Ct (jD G (o i) j)).set j (-(o i j))=yV Ct (jD G (o i) (j+1)):=by
     rw[zEF];exact yH fun t _=>by
      unfold jD;by_cases J:t=j
      .subst J
       rw[zB rfl,zB oM,v.out]
      rw[zA J];by_cases I:t<j
      .rw[zB I,zB oM]
      rw[zA I,zA oM]
    rw[A]at C;refine⟨_,_,_,_,_,_,_,_,_,_,_,_,_,?_,rfl⟩;exact⟨j+1,oM,by simp,c.trans ⟨yB (yB (zC _ _) (zH _) _ _) (zH _) _ _,C.2,fun i _ g=>yL _ _ _ _ _ _ _ (by simpa using g)⟩,_,funext v.out,C.1⟩
   case measure=>exact meq
  obtain rfl:j=Ct:=oM;have A:yV j (jD G (o i) j)=yV j (fun t=>-o i t):=yH fun t d=>by unfold jD;rw[zB d];exact v.out t
  rw[A]at f;go_wp2;go_roundw
  case measure=>simp[intOf]
  have B:=k.rowAt g a8;exact⟨3,oM,by simp,E.trans ⟨c.bel,c.lext,fun a4 hk Z=>c.old a4 hk (by simp;rintro rfl;exact Z ((fun h=>.inr (.inr h)) z))⟩,T.row c B dE,by simpa using l.only c (fun y=>a9 _ y z) B,by simpa using d.only c (fun y=>b2 _ y z) B,by simpa using k.negRow g a8 c f⟩
 obtain rfl:m=3:=oM;rw[zB oM]at l d k;go_wp2;exact bodyPost_end (results_none rfl _ _ _) rfl ⟨⟨_,rfl⟩,E,T,l,d,k,b0,a9,b2,c2.out,c1.out,c3.out⟩
theorem zM8(b:Value)(m0 m1 m2 m3:Int)(w:World)(f:M4V w b m0 m1 m2 m3):
  CPq 179 #[.slice none 0 0,.slice none 0 0,b] w fun e w'=>(∃u,e= .returned u)/\BWq w w':=by
 obtain⟨x,h,r,m,y,i,s,n,z,j,t,o,A,k,v,p,rfl,-⟩:=id f;go_enter Tryz.func179,Tryz.ntmps179;go_upto_region 1 with(fail)
 refine zF ?_;intro c a;obtain⟨d,l,q⟩:=qJ a;clear a;go_wp2;go_loopw [11] (fun g wr=>g=niq 0/\wr=c) (fun _ _=>0)
 case atStart=>exact⟨rfl,rfl⟩
 obtain⟨rfl,rfl⟩:=hrel;go_wp2;exact bodyPost_end (results_none rfl _ _ _) rfl ⟨⟨_,rfl⟩,d⟩
theorem zVG(J:Nat)(z A B:Value)(n Cs i j:Nat)(r:List Nat)(S:Nat->Nat->Int)(kv:Value)(k:Int)(w:World)(a0:Blk w J tHW #[z,A,B])(a:Wri w z n Cs r S)(h:zFZ w A n)(hv:zFZ w B n)(y:i<n)(E:j<n)(b3:i≠j)(g:jE w kv k)
  (hn:n<=1000000) (a8:Cs<=1000000) (X:zMx Cs S i j k) (a4:Sm k):
  CPq 144 #[ptq J 0,niq i,niq j,kv] w fun e w'=>(∃u,e= .returned u)/\qK (fun b=>b∈r) w w'/\Blk w' J tHW #[z,A,B]∧
   Wri w' z n Cs r (zB4 S i j k)/\zFZ w' A n/\zFZ w' B n:=by
 obtain⟨so,sn,sc,rfl,s1,s2,s3,-⟩:=id (qH.rows a);obtain⟨kn,ka,kl,kc,kx,rfl,a5⟩:=id g;have b5:=xgw a5;have HS:=xgv X;have Q:=xgv a4;clear a5 X a4;have e1:n=sn:=by rw[<-s1];simp[genM]
 subst e1;clear s1;obtain⟨K,_,rfl,-⟩:=qH.at_ a (i:=i) (by rw[a.len];exact y);obtain⟨U,tc,-,rfl,-⟩:=id h;obtain⟨T,ic,-,rfl,-⟩:=id hv;have b4:∀b,b∈r->b<w.heap.size:=fun b hb=>(a.blk hb).elim fun b8 hr=>hr.lt
 go_enter Tryz.func144,Tryz.ntmps144;go_upto_region 1 with(fail)
 refine zF ?_;intro W0 Y;obtain⟨s,d,b7⟩:=qJ Y;have f:=a0.I s;have a:=a.I s;have h:=h.I s;have hv:=hv.I s;have g:=g.ext (lx s);have q:=qK.of (fun b=>b∈r) s;clear Y a0;obtain⟨v,R,l,M,L,a9,t,-⟩:=qH.at_ a (i:=i) (by rw[a.len];exact y);obtain⟨x,bj,m,b6,Z,b0,H,-⟩:=qH.at_ a (i:=j) (by rw[a.len];exact E);obtain rfl:K=v:=by injection l with l;injection l
 obtain rfl:K=x:=by injection m with m;injection m
 clear l m a9 b0;have F:=xgd L;obtain⟨ri,a6⟩:=a.blk F;have I:=f.three;have C:=d.two;have a7:=f.lt;have lk:=d.lt;refine yA 15 [] ?_;refine sRd ?_;refine sRf ?_;intro w8 o;have V:=a.I o;have G:=a6.I o;clear t H I C;go_wp2_with fail
 refine(zJG V y E b3 L Z _ (k) (g.ext (lx0 o)) a8 HS.out Q.out).mono ?_;rintro e P ⟨⟨u,rfl⟩,p,W⟩;have a3:w.heap.size≠R:=by have:=b4 R (by simp[F]);omega
 have f:=(f.I o).row p G dE;have d:Blk P w.heap.size 43 #[.bool kn,.slice ka kl kc]:=(p.old _ (d.I o).lt (by simpa using a3)).trans (d.I o);have g:=(g.ext (lx0 o)).ext p.lext;have q:=(q.trans (qK.of _ o)).trans (⟨p.bel,p.lext,fun k g hn=>p.old k g (by simp;rintro rfl;exact hn (by simp[F]))⟩:qK _ w8 P);have h:=(h.I o).row p G;have hv:=(hv.I o).row p G;have a:Wri P (slq K n sc) n Cs r (zB4 S i j k):=W;clear p G a6 V W F a3 L Z;go_upto_region 2 with(fail)
 obtain⟨v,N,l,t⟩:=h.at_ y;obtain⟨x,O,m,H⟩:=h.at_ E;obtain⟨rfl,rfl⟩:U=v/\tc=N:=by simpa using l
 obtain⟨rfl,rfl⟩:U=x/\tc=O:=by simpa using m
 have M:=jU _ _ t;clear l m;have I:=f.three;have C:=d.two;have a7:=f.lt;have lk:=d.lt;refine yA 15 [] ?_;refine sRd ?_;refine sRf ?_;intro c0 a1;go_wp2_with fail
 refine(zM2 _ k _ (g.ext (lx0 a1))).mono ?_;rintro e c1 ⟨⟨u,rfl⟩,D⟩;have c:=nx a1 D;have f:=f.I c;have d:=d.I c;have q:=q.trans (qK.of _ c);have a:=a.I c;have h:=h.I c;have hv:=hv.I c;have g:=g.ext (lx c);clear t H I C c D M;go_upto_region 3 with(fail)
 obtain⟨v,N,l,t⟩:=hv.at_ E;obtain⟨x,O,m,H⟩:=hv.at_ y;obtain⟨rfl,rfl⟩:T=v/\ic=N:=by simpa using l
 obtain⟨rfl,rfl⟩:T=x/\ic=O:=by simpa using m
 have M:=jU _ _ t;clear l m;have I:=f.three;have C:=d.two;have a7:=f.lt;have lk:=d.lt;refine yA 16 [pcI 15 (-k)] ?_;refine sRd ?_;refine sRc (fun wS hI Gk hG=>by go_simp;exact ck hG (zBk _ k _ (g.ext hI.lext).J Q.out)) (fun b9 _=>?_);refine sRe ?_;intro c2 b2 a2;obtain⟨pn,pa,pl,pc,px,rfl,-⟩:=id a2;go_wp2_with fail
 refine(zM2 _ (-k) _ a2).mono ?_;rintro e c3 ⟨⟨u,rfl⟩,D⟩;have c:=nx b2 D;have f:=f.I c;have d:=d.I c;have q:=q.trans (qK.of _ c);have a:=a.I c;have h:=h.I c;have hv:=hv.I c;go_wp2;exact bodyPost_end (results_none rfl _ _ _) rfl ⟨⟨_,rfl⟩,q,f,a,h,hv⟩
theorem zVH(bw:Nat)(G H I mv:Value)(n Cs i j:Nat)(y:List Nat)(S:Nat->Nat->Int)(m0 m1 m2 m3:Int)(w:World)(b5:Blk w bw tHW #[G,H,I])(c:Wri w G n Cs y S)(l:zFZ w H n)(hv:zFZ w I n)(D:i<n)(M:j<n)(d3:i≠j)(hm:M4V w mv m0 m1 m2 m3)
  (hn:n<=1000000) (c8:Cs<=1000000) (hS:zSc Cs (S i) (S j) m0 m1 m2 m3) (c4:Sm m0/\Sm m1/\Sm m2/\Sm m3):
  CPq 145 #[ptq bw 0,niq i,niq j,mv] w fun e w'=>(∃u,e= .returned u)/\qK (fun b=>b∈y) w w'/\Blk w' bw tHW #[G,H,I]∧
   Wri w' G n Cs y (jQ S i j m0 m1 m2 m3)/\zFZ w' H n/\zFZ w' I n:=by
 obtain⟨so,sn,sc,rfl,s1,s2,s3,-⟩:=id (qH.rows c);have HS:=xgv hS;have HK:=xgv c4;obtain⟨n0,a0,l0,c0,n1,a1,l1,c1,n2,a2,l2,c2,n3,a3,l3,c3,rfl,q,r,s,t⟩:=id hm;have g:=xgv (And.intro q (And.intro r (And.intro s t)));clear hS c4 hm q r s t;have e1:n=sn:=by rw[<-s1];simp[genM]
 subst e1;clear s1;obtain⟨gs,_,rfl,-⟩:=qH.at_ c (i:=i) (by rw[c.len];exact D);obtain⟨gt,tc,-,rfl,-⟩:=id l;obtain⟨gi,ic,-,rfl,-⟩:=id hv;have b8:∀b,b∈y->b<w.heap.size:=fun b hb=>(c.blk hb).elim fun g3 hr=>hr.lt
 go_enter Tryz.func145,Tryz.ntmps145;go_upto_region 1 with(fail)
 refine zF ?_;intro W0 b4;obtain⟨B,h,f3⟩:=qJ b4;have f:=b5.I B;have c:=c.I B;have l:=l.I B;have hv:=hv.I B;have a:=qK.of (fun b=>b∈y) B;have f0:=zEG m3 (-m2);have f1:=zEG (-m1) m0;have f2:=zGV m3 (-m2) (-m1) m0;clear b4 b5;obtain⟨z,bi,m,a8,a4,c9,x,-⟩:=qH.at_ c (i:=i) (by rw[c.len];exact D);obtain⟨A,bj,o,e9,a5,d0,Y,-⟩:=qH.at_ c (i:=j) (by rw[c.len];exact M);obtain rfl:gs=z:=by injection m with m;injection m
 obtain rfl:gs=A:=by injection o with o;injection o
 clear m o c9 d0;have N:=xgd a4;have O:=xgd a5;obtain⟨ri,c5⟩:=c.blk N;obtain⟨rj,c6⟩:=c.blk O;have x1:=f.three;obtain⟨P,Q,R,T,U,V,W,X⟩:=h.eight;have c7:=f.lt;have lm:=h.lt;have q:=g.out.1.ext a.lext;have r:=g.out.2.1.ext a.lext;have s:=g.out.2.2.1.ext a.lext;have t:=g.out.2.2.2.ext a.lext;refine yA 15 [] ?_;refine sRd ?_;refine sRf ?_;intro w8 k;have b2:=c.I k;have E:=c5.I k;have F:=c6.I k;clear x Y x1 P Q R T U V W X;go_wp2_with fail
 refine(zGT b2 D M d3 a4 a5 ⟨_,_,_,_,_,_,_,_,_,_,_,_,_,_,_,_,rfl,q.ext (lx0 k),r.ext (lx0 k),s.ext (lx0 k),t.ext (lx0 k)⟩ c8 HS.out HK.out).mono ?_;rintro e w9 ⟨⟨u,rfl⟩,v,b3⟩;have d4:w.heap.size≠bi:=by have:=b8 bi (by simp[N]);omega
 have d5:w.heap.size≠bj:=by have:=b8 bj (by simp[O]);omega
 have f:=(f.I k).row2 v E F dE;have h:Blk w9 w.heap.size 191 #[.bool n0,.slice a0 l0 c0,.bool n1,.slice a1 l1 c1,.bool n2,.slice a2 l2 c2,.bool n3,.slice a3 l3 c3]:=(h.I k).row2 v E F dE;have a:=(a.trans (qK.of _ k)).trans (⟨v.bel,v.lext,fun d6 hk hn=>v.old d6 hk (by simp;exact⟨fun e=>hn (by rw[e];simp[N]),fun e=>hn (by rw[e];simp[O])⟩)⟩:qK _ w8 w9);have l:=(l.I k).row2 v E F;have hv:=(hv.I k).row2 v E F;have c:=b3;clear v E c5 F c6 b2 b3 N O d4 d5 a4 a5;go_upto_region 2 with(fail)
 obtain⟨z,a9,m,x⟩:=l.at_ D;obtain⟨A,b0,o,Y⟩:=l.at_ M;obtain⟨rfl,rfl⟩:gt=z/\tc=a9:=by simpa using m
 obtain⟨rfl,rfl⟩:gt=A/\tc=b0:=by simpa using o
 have a8:=jU _ _ x;clear m o;have x1:=f.three;obtain⟨P,Q,R,T,U,V,W,X⟩:=h.eight;have K:=h;have q:=g.out.1.ext a.lext;have r:=g.out.2.1.ext a.lext;have s:=g.out.2.2.1.ext a.lext;have t:=g.out.2.2.2.ext a.lext;have c7:=f.lt;have lk:=K.lt;refine yA 15 [] ?_;refine sRd ?_;refine sRf ?_;intro g8 C;go_wp2_with fail
 refine(zM8 _ m0 m1 m2 m3 _ ⟨_,_,_,_,_,_,_,_,_,_,_,_,_,_,_,_,rfl,q.ext (lx0 C),r.ext (lx0 C),s.ext (lx0 C),t.ext (lx0 C)⟩).mono ?_;rintro e g9 ⟨⟨u,rfl⟩,L⟩;have d:=nx C L;have f:=f.I d;have h:=h.I d;have a:=a.trans (qK.of _ d);have c:=c.I d;have l:=l.I d;have hv:=hv.I d;clear x Y x1 P Q R T U V W X d L a8 K q r s t;go_upto_region 3 with(fail)
 obtain⟨z,a9,m,x⟩:=hv.at_ D;obtain⟨A,b0,o,Y⟩:=hv.at_ M;obtain⟨rfl,rfl⟩:gi=z/\ic=a9:=by simpa using m
 obtain⟨rfl,rfl⟩:gi=A/\ic=b0:=by simpa using o
 have a8:=jU _ _ x;clear m o;have x1:=f.three;obtain⟨P,Q,R,T,U,V,W,X⟩:=h.eight;have K:=h;have q:=g.out.1.ext a.lext;have r:=g.out.2.1.ext a.lext;have s:=g.out.2.2.1.ext a.lext;have t:=g.out.2.2.2.ext a.lext;have c7:=f.lt;have lk:=K.lt;refine yA 31 [pcI 20 (-m2),pcD 21 [20] (M2V m3 (-m2)),pcI 25 (-m1),pcD 29 [25] (M2V (-m1) m0),pcD 30 [21,29] (fun w d7=>M4V w d7 m3 (-m2) (-m1) m0)] ?_;refine sRd ?_;refine sRc (fun Z hI J p=>by go_simp;exact ck p (zBk _ m2 _ (s.ext hI.lext).J HK.out.2.2.1)) (fun g4 _=>?_);refine sRc (fun Z hI a6 J p=>?_) (fun g5 _=>?_)
 .obtain⟨e0,e3,e5,e7,h1,rfl,h3⟩:=id a6
  go_simp;exact⟨p _ _ ⟨_,_,_,_,_,_,_,_,rfl,t.ext hI.lext,a6⟩,zC _ _⟩
 refine sRd ?_;refine sRc (fun Z hI J p=>by go_simp;exact ck p (zBk _ m1 _ (r.ext hI.lext).J HK.out.2.1)) (fun g6 _=>?_);refine sRd ?_;refine sRc (fun Z hI a7 J p=>?_) (fun g7 _=>?_)
 .obtain⟨e2,e4,e6,e8,h2,rfl,h4⟩:=id a7
  go_simp;exact⟨p _ _ ⟨_,_,_,_,_,_,_,_,rfl,a7,q.ext hI.lext⟩,zC _ _⟩
 refine sRc (fun Z hI b6 b7 J p=>?_) (fun d8 _=>?_)
 .obtain⟨p0,p1,p2,p3,p4,p5,p6,p7,rfl,p8,p9⟩:=b6
  obtain⟨q0,q1,q2,q3,q4,q5,q6,q7,rfl,q8,q9⟩:=b7;go_simp;exact⟨p _ _ ⟨_,_,_,_,_,_,_,_,_,_,_,_,_,_,_,_,rfl,p8,p9,q8,q9⟩,zC _ _⟩
 refine sRe ?_;intro d9 d1 a6 b6 a7 b7 d2;have b9:M4V d9 d8 m3 (-m2) (-m1) m0:=d2;obtain⟨p0,p1,p2,p3,p4,p5,p6,p7,p8,p9,f4,f5,f6,f7,f8,f9,rfl,-⟩:=id b9;go_wp2_with fail
 refine(zM8 _ m3 (-m2) (-m1) m0 _ b9).mono ?_;rintro e h0 ⟨⟨u,rfl⟩,L⟩;have d:=nx d1 L;have f:=f.I d;have h:=h.I d;have a:=a.trans (qK.of _ d);have c:=c.I d;have l:=l.I d;have hv:=hv.I d;go_wp2;exact bodyPost_end (results_none rfl _ _ _) rfl ⟨⟨_,rfl⟩,a,f,c,l,hv⟩
theorem zVI(A:Nat)(x y z:Value)(n Cs i:Nat)(s:List Nat)(d:Nat->Nat->Int)(w:World)(C:Blk w A tHW #[x,y,z])(c:Wri w x n Cs s d)(g:zFZ w y n)(hv:zFZ w z n)(k:i<n)
  (Z:n<=1000000) (b6:Cs<=1000000) (U:∀a,a<n->∀b,b<Cs->Sm (d a b)):
  CPq 146 #[ptq A 0,niq i] w fun e w'=>(∃u,e= .returned u)/\qK (fun b=>b∈s) w w'/\Blk w' A tHW #[x,y,z]∧
   Wri w' x n Cs s (zCq d i)/\zFZ w' y n/\zFZ w' z n:=by
 obtain⟨so,sn,sc,rfl,s1,s2,s3,-⟩:=id (qH.rows c);have HS:=xgv U;have e1:n=sn:=by rw[<-s1];simp[genM]
 subst e1;clear s1 U;obtain⟨P,l,rfl,a6,B,-,o1,-⟩:=qH.at_ c (i:=i) (by rw[c.len];exact k);obtain⟨Q,tc,rfl,o2⟩:=g.at_ k;obtain⟨O,ic,rfl,o3⟩:=hv.at_ k;have h:=qK.refl (fun b=>b∈s) w;have x1:=C.three;have c0:=C.lt;have a7:=jU _ _ o2;have a5:=jU _ _ o3;go_enter Tryz.func146,Tryz.ntmps146;go_upto_region 0 with(fail)
 refine zBP [] ?_;refine sRd ?_;refine sRf ?_;intro w0 v;have h:=h.trans (qK.of _ v);have o:=C.I v;have c:=c.I v;have g:=g.I v;have hv:=hv.I v;clear o1 o2 o3 x1 C a6 a7 a5;go_wp2;go_loopw [30] (fun M wr=>∃m:Nat,m<=3/\M=niq m/\qK (fun b=>b∈s) w wr/\Blk wr A tHW #[slq P n sc,slq Q n tc,slq O n ic]∧
  Wri wr (slq P n sc) n Cs s (if 0<m then zCq d i else d)/\zFZ wr (slq Q n tc) n/\zFZ wr (slq O n ic) n) (fun M _=>3-(intOf M).toNat)
 case atStart=>exact⟨0,oM,rfl,h,o,c,g,hv⟩
 clear h o c g hv;obtain⟨m,hm,rfl,h,o,c,g,hv⟩:=hrel;by_cases a8:m=0
 .subst a8
  rw[zA oM]at c;have b2:=xgd B;have a1:=c.rowAt k B;have Y:=fun W=>zD8 193 3 #[slq l Cs Cs,.slice none 0 0,.slice none 0 0] 0 0 _ W zBJ rfl oM rfl
  have a2:∀F:Nat->Int,yV Cs F=yV Cs (jD (fun t=>-F t) F 0):=fun F=>yH fun t _=>by unfold jD;rw[zA oM]
  rw[a2]at a1;clear a2;go_wp2;go_loopw [35] (fun r wt=>∃j:Nat,j<=Cs/\r=niq j/\zB0 [l] wr wt/\(∃G,G=(fun t=>-d i t)/\jY wt l (yV Cs (jD G (d i) j)))) (fun r _=>Cs-(intOf r).toNat)
  case atStart=>exact⟨0,oM,rfl,zB0.refl _ _,_,rfl,a1⟩
  rename World=>wt
  obtain⟨j,hj,rfl,f,G,T,p⟩:=hrel;have H:=xgv (congrFun T);clear T;have b7:=f.bel.size;by_cases D:j<Cs
  .obtain⟨xs,xa,xl,xc,v1,v2,-,-,E⟩:=p.cell (yO D)
   have b3:jD G (d i) j j=d i j:=by unfold jD;rw[zA oM]
   rw[b3]at E;have b8:=p.lt;go_upto_region 6 with(fail)
   refine zF ?_;intro W6 V;obtain⟨I,N,b9⟩:=qJ V;have d1:=N.two;have f:=f.trans (zB0.of [l] I);have p:=p.I I;have E:=E.ext (lx I);have l7:=N.lt;clear v1 v2 V;have a4:=xgv (HS.out i k j D);go_wp2_with fail
   refine(zBk _ (d i j) W6 E.J a4.out).mono ?_;rintro e w9 ⟨u,rfl,g,X⟩;obtain⟨pn,pa,pl,pc,px,rfl,a0⟩:=id g;have b5:=xgw a0;clear a0;have a3:=p.I X;obtain⟨zs,za,zl,zc,z1,z2,z3,z4,-⟩:=a3.cell (yO D);have L:=a3.set (k:=j) (by rw[qN];exact D) g;have f:=f.trans (zB0.of [l] X);go_wp2;go_roundw
   case rel=>
    have J:(yV Cs (jD G (d i) j)).set j (-(d i j))=yV Cs (jD G (d i) (j+1)):=by
     rw[zEF];exact yH fun t _=>by
      unfold jD;by_cases S:t=j
      .subst S
       rw[zB rfl,zB oM,H.out]
      rw[zA S];by_cases R:t<j
      .rw[zB R,zB oM]
      rw[zA R,zA oM]
    rw[J]at L;refine⟨_,_,_,_,_,_,_,_,_,_,_,_,_,?_,rfl⟩;exact⟨j+1,oM,by simp,f.trans ⟨yB (yB (zC _ _) (zH _) _ _) (zH _) _ _,L.2,fun i _ k=>yL _ _ _ _ _ _ _ (by simpa using k)⟩,_,funext H.out,L.1⟩
   case measure=>exact meq
  obtain rfl:j=Cs:=oM;have J:yV j (jD G (d i) j)=yV j (fun t=>-d i t):=yH fun t ht=>by unfold jD;rw[zB ht];exact H.out t
  rw[J]at p;go_wp2;go_roundw
  case measure=>simp[intOf]
  have K:=c.rowAt k B;exact⟨1,oM,by simp,h.trans ⟨f.bel,f.lext,fun b4 hk Z=>f.old b4 hk (by simp;rintro rfl;exact Z (id b2))⟩,o.row f K dE,by simpa using c.negRow k B f p,g.row f K,hv.row f K⟩
 by_cases a9:m=1
 .subst a9
  rw[zB oM]at c;have Y:=fun W=>zD8 193 3 #[slq l Cs Cs,.slice none 0 0,.slice none 0 0] 1 1 _ W zBJ rfl oM rfl
  go_wp2;go_loopw [35] (fun r wt=>r=niq 0/\wt=wr) (fun _ _=>0)
  case atStart=>exact⟨rfl,rfl⟩
  rename World=>wt
  obtain⟨rfl,q⟩:=hrel;have q:=q.symm;subst q;go_wp2;go_roundw
  case measure=>simp[intOf]
  exact⟨2,oM,by simp,h,o,by simpa using c,g,hv⟩
 by_cases b0:m=2
 .subst b0
  rw[zB oM]at c;have Y:=fun W=>zD8 193 3 #[slq l Cs Cs,.slice none 0 0,.slice none 0 0] 2 2 _ W zBJ rfl oM rfl
  go_wp2;go_loopw [35] (fun r wt=>r=niq 0/\wt=wr) (fun _ _=>0)
  case atStart=>exact⟨rfl,rfl⟩
  rename World=>wt
  obtain⟨rfl,q⟩:=hrel;have q:=q.symm;subst q;go_wp2;go_roundw
  case measure=>simp[intOf]
  exact⟨3,oM,by simp,h,o,by simpa using c,g,hv⟩
 obtain rfl:m=3:=oM;rw[zB oM]at c;go_wp2;exact bodyPost_end (results_none rfl _ _ _) rfl ⟨⟨_,rfl⟩,h,o,c,g,hv⟩
def zEV(e:Bool)(Z:Nat->Prop)(w:World)(bw:Nat)(Ah:Value)(n Cs Ct:Nat)(x:Bst):Prop:=
 if e=true then ∃Au Av bss bst bsi,Blk w bw tHW #[Ah,Au,Av]/\zFx w Ah Au Av n Cs Ct bss bst bsi x.s x.t x.i/\∀b,b∈bss∨b∈bst∨b∈bsi->Z b
 else Ct=0/\∃Au Av bss,Blk w bw tHW #[Ah,Au,Av]/\Wri w Ah n Cs bss x.s/\zFZ w Au n/\zFZ w Av n/\∀b,b∈bss->Z b
theorem zFx.I{c d b:Value}{f g e:List Nat}{S T I:Nat->Nat->Int}(h:zFx w c d b n Cs Ct f g e S T I)(a:BWq w w'):zFx w' c d b n Cs Ct f g e S T I:=
 ⟨h.s.I a,h.t.I a,h.i.I a,h.st,h.si,h.ti,h.ast,h.asi,h.ati⟩
section
variable {e:Bool} {Z:Nat->Prop} {w w':World} {bw:Nat} {Ah:Value} {n Cs Ct:Nat} {x:Bst}
theorem zEV.I(h:zEV e Z w bw Ah n Cs Ct x)(a:BWq w w'):zEV e Z w' bw Ah n Cs Ct x:=by
 unfold zEV at h ⊢
 split at h
 .rename_i j
  rw[zB j];obtain⟨b,c,d,k,l,f,g,i⟩:=h;exact⟨b,c,d,k,l,f.I a,g.I a,i⟩
 rename_i j;rw[zA j];obtain⟨m,b,c,d,f,g,i,o,p⟩:=h;exact⟨m,b,c,d,f.I a,g.I a,i.I a,o.I a,p⟩
theorem zEV.wri(h:zEV e Z w bw Ah n Cs Ct x):∃d,Wri w Ah n Cs d x.s/\∀b,b∈d->Z b:=by
 unfold zEV at h;split at h
 .obtain⟨g,i,a,m,o,j,c,f⟩:=h
  exact⟨a,c.s,fun b l=>f b (.inl l)⟩
 obtain⟨p,g,i,a,j,c,f,q,k⟩:=h;exact⟨a,c,k⟩
theorem zEV.blk(h:zEV e Z w bw Ah n Cs Ct x):∃a b,Blk w bw tHW #[Ah,a,b]:=by
 unfold zEV at h;split at h
 .obtain⟨a,b,d,f,g,c,-⟩:=h
  exact⟨a,b,c⟩
 obtain⟨i,a,b,d,c,-⟩:=h;exact⟨a,b,c⟩
theorem qK.widen{Z':Nat->Prop}(h:qK Z w w')(b:∀k,Z k->Z' k):qK Z' w w':=h.mono fun k _ a=>b k a
theorem qA6(a:BSm B){o:Value}{k:Int}(h:zEV e Z w bw Ah n Cs Ct x)(U:okB B n Cs Ct x)(g:i<n)(l:j<n)(J:i≠j)(K:jE w o k)
  (L:n<=1000000) (H:Cs<=1000000) (S:Ct<=1000000) (T:zEn B n Cs Ct x i j k):
  CPq 144 #[ptq bw 0,niq i,niq j,o] w fun r w'=>(∃u,r= .returned u)/\qK Z w w'/\zEV e Z w' bw Ah n Cs Ct (x.add i j k):=by
 obtain⟨C,P,D,X⟩:=T;obtain⟨M,N,O⟩:=U;have I:zMx Cs x.s i j k:=fun t b=>⟨a.sm _ (M i g t b),a.sm _ (M j l t b),a.sm _ (P t b)⟩
 unfold zEV at h ⊢
 split at h
 .rename_i s
  obtain⟨c,d,f,E,F,p,q,m⟩:=h;refine(zW3 bw Ah c d n Cs Ct i j f E F x.s x.t x.i o k w p q g l J K L H S I (fun t b=>⟨a.sm _ (N i g t b),a.sm _ (N j l t b),a.sm _ (D t b).1⟩)
   (fun t b=>⟨a.sm _ (O j l t b),a.sm _ (O i g t b),a.sm _ (by rw[yE,zY];exact(D t b).2)⟩) (a.sm _ C)).mono ?_
  rintro r w' ⟨v,y,z,A⟩;rw[zB s];exact⟨v,y.widen m,c,d,f,E,F,z,A,m⟩
 rename_i s;obtain⟨Q,c,d,f,p,q,m,R,G⟩:=h;refine(zVG bw Ah c d n Cs i j f x.s o k w p q m R g l J K L H I (a.sm _ C)).mono ?_;rintro r w' ⟨v,y,z,A,V,W⟩;rw[zA s];exact⟨v,y.widen G,Q,c,d,f,z,A,V,W,G⟩
theorem qBB(l:BSm B)(h:zEV e Z w bw Ah n Cs Ct x)(J:okB B n Cs Ct x)(D:i<n)(E:n<=1000000)(C:Cs<=1000000)(I:Ct<=1000000):
  CPq 146 #[ptq bw 0,niq i] w fun r w'=>(∃u,r= .returned u)/\qK Z w w'/\zEV e Z w' bw Ah n Cs Ct (x.neg i):=by
 obtain⟨F,M,N⟩:=J;unfold zEV at h ⊢
 split at h
 .rename_i p
  obtain⟨f,g,j,y,z,m,o,k⟩:=h;refine(zW5 bw Ah f g n Cs Ct i j y z x.s x.t x.i w m o D E C I (fun a c b d=>l.sm _ (F a c b d)) (fun a c b d=>l.sm _ (M a c b d)) (fun a c b d=>l.sm _ (N a c b d))).mono ?_;rintro r w' ⟨q,s,t,v⟩;rw[zB p];exact⟨q,s.widen k,f,g,j,y,z,t,v,k⟩
 rename_i p;obtain⟨G,f,g,j,m,o,k,H,A⟩:=h;refine(zVI bw Ah f g n Cs i j x.s w m o k H D E C (fun a c b d=>l.sm _ (F a c b d))).mono ?_;rintro r w' ⟨q,s,t,v,K,L⟩;rw[zA p];exact⟨q,s.widen A,G,f,g,j,t,v,K,L,A⟩
structure zT3(B n Cs Ct:Nat)(x:Bst)(i j:Nat)(a b c d:Int):Prop where
 kk:a.natAbs<B/\b.natAbs<B/\c.natAbs<B/\d.natAbs<B
 ss:∀t,t<Cs->(a*x.s i t).natAbs<B/\(b*x.s j t).natAbs<B/\(c*x.s i t).natAbs<B/\(d*x.s j t).natAbs<B
 tt:∀t,t<Ct->(a*x.t i t).natAbs<B/\(b*x.t j t).natAbs<B/\(c*x.t i t).natAbs<B/\(d*x.t j t).natAbs<B
 ii:∀t,t<Ct->(d*x.i i t).natAbs<B/\(c*x.i j t).natAbs<B/\(b*x.i i t).natAbs<B/\(a*x.i j t).natAbs<B
 oo:okB B n Cs Ct (x.mix i j a b c d)
theorem qBa(f:BSm B){A:Value}{a b c d:Int}(h:zEV e Z w bw Ah n Cs Ct x)(a6:okB B n Cs Ct x)(o:i<n)(p:j<n)(O:i≠j)(P:M4V w A a b c d)
  (Q:n<=1000000) (M:Cs<=1000000) (a5:Ct<=1000000) (ha:zT3 B n Cs Ct x i j a b c d):
  CPq 145 #[ptq bw 0,niq i,niq j,A] w fun r w'=>(∃u,r= .returned u)/\qK Z w w'/\zEV e Z w' bw Ah n Cs Ct (x.mix i j a b c d):=by
 obtain⟨⟨U,V,W,X⟩,Y,a0,ai,ao⟩:=ha;obtain⟨R,S,T⟩:=a6;have hK:Sm a/\Sm b/\Sm c/\Sm d:=⟨f.sm _ U,f.sm _ V,f.sm _ W,f.sm _ X⟩;have N:zSc Cs (x.s i) (x.s j) a b c d:=fun t g=>by
  obtain⟨q,s,v,y⟩:=Y t g;exact⟨f.sm _ (R i o t g),f.sm _ (R j p t g),f.sm _ q,f.sm _ s,f.sm _ v,f.sm _ y⟩
 unfold zEV at h ⊢
 split at h
 .rename_i E
  obtain⟨k,l,m,J,K,C,D,z⟩:=h;refine(zW4 bw Ah k l A n Cs Ct i j m J K x.s x.t x.i a b c d w C D o p O P Q M a5 N (fun t g=>by
   obtain⟨q,s,v,y⟩:=a0 t g;exact⟨f.sm _ (S i o t g),f.sm _ (S j p t g),f.sm _ q,f.sm _ s,f.sm _ v,f.sm _ y⟩) (fun t g=>by
   obtain⟨q,s,v,y⟩:=ai t g;exact⟨f.sm _ (T i o t g),f.sm _ (T j p t g),f.sm _ q,f.sm _ (by rw[yE,zY];exact s),f.sm _ (by rw[yE,zY];exact v),f.sm _ y⟩) hK).mono ?_
  rintro r w' ⟨F,G,H,I⟩;rw[zB E];exact⟨F,G.widen z,k,l,m,J,K,H,I,z⟩
 rename_i E;obtain⟨h0,k,l,m,C,D,z,h4,L⟩:=h;refine(zVH bw Ah k l A n Cs i j m x.s a b c d w C D z h4 o p O P Q M N hK).mono ?_;rintro r w' ⟨F,G,H,I,k4,k5⟩;rw[zA E];exact⟨F,G.widen L,h0,k,l,m,H,I,k4,k5,L⟩
end
def zE3(bw:Nat):Array Value:=#[.func (.func 144) #[ptq bw 0] #[],.func (.func 145) #[ptq bw 0] #[],.func (.func 146) #[ptq bw 0] #[]]
inductive zQx (x:Bst) (r m c:Nat):Bst->Prop
 |add:x.s m c%x.s r c=0->zQx x r m c (x.add m r (-(x.s m c/x.s r c)))
 |mix (s t:Int):¬ x.s m c%x.s r c=0->Bez (x.s r c) (x.s m c) s t->zQx x r m c (x.mix r m s t (-(x.s m c/((Int.gcd (x.s r c) (x.s m c):Nat):Int))) (x.s r c/((Int.gcd (x.s r c) (x.s m c):Nat):Int)))
abbrev zEc:TypeId:=169
theorem zEV.row{g a j:Nat}{x:Bst}(h:zEV e Z w bw (slq g a j) n Cs Ct x)(f:i<n):
  ∃b,w.cell? ⟨g,i,none⟩=some (slq b Cs Cs)/\jY w b (yV Cs (x.s i))/\g<w.heap.size:=by
 obtain⟨p,d,-⟩:=h.wri;obtain⟨k,b,c,m,l,-,o,-⟩:=qH.at_ d (i:=i) (by rw[d.len];exact f);obtain rfl:g=k:=by injection c with c;injection c
 exact⟨b,o,d.rowAt f l,m⟩
theorem zEV.only{x:Bst}{cs:Array Value}(h:zEV e Z w bw Ah n Cs Ct x)(c:zB0 [b] w w')(i:¬ Z b)(v:Blk w b 43 cs):zEV e Z w' bw Ah n Cs Ct x:=by
 have d:jY w b []:=⟨cs,v,fun k z y=>by simp at y⟩;unfold zEV at h ⊢
 split at h
 .rename_i p
  rw[zB p];obtain⟨j,l,m,r,s,o,a,g⟩:=h;exact⟨j,l,m,r,s,o.row c d dE,⟨a.s.only c (fun f=>i (g _ (.inl f))) d,a.t.only c (fun f=>i (g _ (.inr (.inl f)))) d,a.i.only c (fun f=>i (g _ (.inr (.inr f)))) d,a.st,a.si,a.ti,a.ast,a.asi,a.ati⟩,g⟩
 rename_i p;rw[zA p];obtain⟨t,j,l,m,o,a,g,u,q⟩:=h;exact⟨t,j,l,m,o.row c d dE,a.only c (fun f=>i (q _ f)) d,g.row c d,u.row c d,q⟩
theorem zQQ{x y a c:Value}(d:Blk w b 43 #[a,c]):zB0 [b] w ((w.setCell ⟨b,0,none⟩ x).setCell ⟨b,1,none⟩ y):=
 ⟨yB (yB (zC 0 _) (zH _) _ _) (zH _) _ _,d.lext2 dE _ _,fun k _ e=>yL _ _ _ _ _ _ _ (by simpa using e)⟩
theorem qK.new{d e:World}(h:qK Z w d)(a:zB0 [b] d e)(g:w.heap.size<=b):qK Z w e:=
 ⟨h.bel.trans a.bel,h.lext.trans a.lext,fun k c f=>(a.old k (zM c h.bel.size) (by simp;omega)).trans (h.old k c f)⟩
theorem zV4{e0:Bool}(hB:BSd B){r m c:Nat}{x:Bst}(h:zEV e0 Z w bw Ah n Cs Ct x)(b9:okB B n Cs Ct x)(hr:r<n)(hm:m<n)(g2:r≠m)(hc:c<Cs)(h0:x.s r c≠0)
  (hn:n<=1000000) (e5:Cs<=1000000) (e6:Ct<=1000000) (hZ:∀b,Z b->b<w.heap.size)
  (ha:x.s m c%x.s r c=0->zEn B n Cs Ct x m r (-(x.s m c/x.s r c)))
  (hx:∀s t,Bez (x.s r c) (x.s m c) s t->zT3 B n Cs Ct x r m s t (-(x.s m c/((Int.gcd (x.s r c) (x.s m c):Nat):Int))) (x.s r c/((Int.gcd (x.s r c) (x.s m c):Nat):Int))):
  CPq 176 #[Ah,.agg #[niq r,niq c],niq m,.agg (zE3 bw)] w fun e w'=>(∃u,e= .returned u)/\qK Z w w'/\∃y,zQx x r m c y/\zEV e0 Z w' bw Ah n Cs Ct y:=by
 obtain⟨i4,c0,-⟩:=h.wri;obtain⟨so,sn,o6,rfl,s1,-⟩:=id (qH.rows c0);have q:n=sn:=by rw[<-s1];simp[genM]
 subst q;obtain⟨o9,_,rfl,-⟩:=qH.at_ c0 (i:=r) (by rw[c0.len];exact hr);clear s1 c0 i4;have d4:=xgv b9;have c3:=xgv ha;have b5:=xgv hx;obtain⟨X,hX⟩:∃X,x.s r c=X:=⟨_,rfl⟩;obtain⟨Y,hY⟩:∃Y,x.s m c=Y:=⟨_,rfl⟩;have a1:=xgw hX;have a2:=xgw hY;have SX:jI (Smd X):=⟨by rw[<-hX];exact hB.smd _ (b9.1 r hr c hc)⟩;have SY:jI (Smd Y):=⟨by rw[<-hY];exact hB.smd _ (b9.1 m hm c hc)⟩;rw[hX]at h0 c3 b5;rw[hY]at c3 b5;have d:=xgv h;obtain⟨br,o1,r1,hg⟩:=h.row hr;obtain⟨bm,o2,r2,-⟩:=h.row hm;obtain⟨xn,xa,xl,xc,q1,q2,-,-,b0⟩:=r1.cell (yO hc);obtain⟨yn,ya,yl,yc,q3,q4,-,-,b2⟩:=r2.cell (yO hc);rw[hX]at b0;rw[hY]at b2;have t3:=r1.lt;have t4:=r2.lt;clear b9 ha hx hX hY h r1 r2;go_enter Tryz.func176,Tryz.ntmps176;go_upto_region 1 with(fail)
 refine zF ?_;intro W0 e8;obtain⟨H,f,g,s0⟩:=zAU e8;have g:Blk W0 (w.heap.size+1) 167 (zE3 bw):=g;have l:=qK.of Z H;have d:=xgv (d.out.I H);have o1:=jP o1 H;have o2:=jP o2 H;have q1:=jP q1 H;have q2:=jP q2 H;have q3:=jP q3 H;have q4:=jP q4 H;have b0:=b0.ext (lx H);have b2:=b2.ext (lx H);obtain⟨V,W,p3,p4⟩:=f.two;have l5:=f.lt;have lz:=H.size;clear e8;refine zBP [pcI 8 (X),pcI 16 (Y),pbA 17 43 2,pbA 18 43 2,pbS 19 17 43 2,pbS 20 18 43 2] ?_;refine sRd ?_;refine sRc (fun wS hI T k=>?_) (fun w5 hv=>?_)
 .have i6:=hI.cell q1
  have i7:=hI.cell q2;go_simp;exact⟨k _ _ (b0.ext hI.lext),zC _ _⟩
 obtain⟨h4,h6,rfl,m5⟩:=zJD hv;clear hv;refine sRd ?_;refine sRc (fun wS hI T k=>?_) (fun w2 hv=>?_)
 .have i6:=hI.cell q3
  have i7:=hI.cell q4;go_simp;exact⟨k _ _ (b2.ext hI.lext),zC _ _⟩
 obtain⟨h5,h7,rfl,m6⟩:=zJD hv;clear hv;refine sRa (cs:=#[.bool false,.slice none 0 0]) fun U r4=>?_
 refine sRa (cs:=#[.bool false,.slice none 0 0]) fun P r5=>?_
 refine sRs U (.agg #[h4,h6]) ?_ m5;refine sRs P (.agg #[h5,h7]) ?_ m6;refine sRb ?_;simp only[FA,FC,FN,ptr,List.nil_append,List.cons_append,Act.put,xgh,xgi,xgj];intro w3 a6 f3 f2 c1 c2 h2 m0;replace c1:Blk w3 U 43 #[h4,h6]:=c1 _ rfl;have g7:=f3;replace c2:Blk w3 P 43 #[h5,h7]:=c2 _ rfl;have g8:=f2;have h3:U≠P:=h2 (18,P) sI;clear h2 m0;have l:=l.trans (qK.of Z a6);have d:=xgv (d.out.I a6);have f:=f.I a6;have g:=g.I a6;have E:=zB9.mk c1 g7;have F:=zB9.mk c2 g8;have v0:=a6.size;clear o1 o2 q1 q2 q3 q4 b0 b2 V W p3 p4 c1 c2 g7 g8 f3 f2;obtain⟨n8,a8,l8,c8,o,J⟩:=id E;obtain⟨n9,a9,l9,c9,p,K⟩:=id F;obtain⟨z,q,A,C⟩:=o.two;have L:=p.two;go_wp2_with fail
 refine(zD6 _ _ Y X w3 K.J J.J SY.out.sm SX.out.sm h0).mono ?_;rintro e w4 ⟨q0,r0,rfl,D,M,f4⟩;obtain⟨qn,qa,ql,qc,qx,rfl,O⟩:=id D;obtain⟨rn,ra,rl,rc,rx,rfl,g1⟩:=id M;have d5:=xgw O;have n3:=xgw g1;clear O g1 z q A C L o p J K;go_upto_region 3 with(fail)
 refine zF ?_;intro W5 e9;obtain⟨c4,a3,d6,s2⟩:=zAU e9;have N:=nx f4 c4;have l:=l.trans (qK.of Z N);have d:=xgv (d.out.I N);have f:=f.I N;have g:=g.I N;have E:=E.I N;have F:=F.I N;have D:=D.ext (lx c4);have M:=M.ext (lx c4);have v6:=N.size;clear e9 N;obtain⟨z,q,A,C⟩:=d6.two;go_wp2_with fail
 refine(zAw _ (Y%X) W5 M.J).mono ?_;rintro e w6 ⟨rfl,I⟩;have l:=l.trans (qK.of Z I);have d:=xgv (d.out.I I);have f:=f.I I;have g:=g.I I;have a3:=a3.I I;have E:=E.I I;have F:=F.I I;have D:=D.ext (lx I);have v7:=I.size;have v5:=f4.size;clear z q A C d6 M;by_cases a7:Y%X=0
 .rw[zBL a7]
  have x1:=g.three;obtain⟨V,W,p3,p4⟩:=f.two;have d1:=a3.two;have l5:=f.lt;have l7:=g.lt;have s4:=a3.lt;have l1:jI (Sm (Y/X)):=⟨SY.out.sm.mono (zBN Y X)⟩;go_upto_region 4 with(fail)
  refine yA 7 [pcI 6 (-(Y/X))] ?_;refine sRd ?_;refine sRc (fun wS hI T k=>by go_simp;exact ck k (zBk _ (Y/X) _ (D.ext hI.lext).J l1.out)) (fun m9 _=>?_);refine sRe ?_;intro w7 f7 I;have k4:jE w7 m9 (-(Y/X)):=I;have l:=l.trans (qK.of Z f7);have d:=xgv (d.out.I f7);have h8:=xgv (c3.out a7);clear x1 V W p3 p4 d1;go_wp2_with fail
  refine(qA6 hB.bsm d.out d4.out hm hr (qF g2) k4 hn e5 e6 h8.out).mono ?_;rintro e w8 ⟨⟨uu,rfl⟩,l0,k2⟩;go_wp2;have hJ:zQx x r m c (x.add m r (-(Y/X))):=by
   rw[<-a1.out,<-a2.out];exact .add (by rw[a1.out,a2.out];exact a7)
  exact bodyPost_ret (results_none rfl _ _ _) rfl ⟨⟨_,rfl⟩,l.trans l0,_,hJ,k2⟩
 have f8:=zCm a7;obtain⟨k0,k5⟩:∃k0,zAv (Y%X) 0=k0:=⟨_,rfl⟩;rw[k5]at f8 ⊢
 have r6:(k0==0)=false:=by simpa using f8
 obtain⟨G,k⟩:∃G:Int,((Int.gcd X Y:Nat):Int)=G:=⟨_,rfl⟩;have e7:G≠0:=by
  rw[<-k];intro hh;have:Int.gcd X Y=0:=oM;exact h0 (Int.eq_zero_of_gcd_eq_zero_left this)
 have SG:jI (Smd G):=⟨SX.out.mono (by rw[<-k];exact zCA oM (by have:=zBd X Y;exact Int.natAbs_dvd_natAbs.2 this))⟩;have HG:=xgw k;rw[k]at b5;clear k a3 D;have t5:=E.lt;have t6:=F.lt;obtain⟨n8,a8,l8,c8,o,J⟩:=id E;obtain⟨n9,a9,l9,c9,p,K⟩:=id F;obtain⟨z,q,A,C⟩:=o.two;have L:=p.two;go_wp2_with fail
 refine(zTK _ _ X Y w6 J K SX.out SY.out).mono ?_;rintro e w7 ⟨v1,v2,v3,s,t,rfl,b8,d0,d2,f5,g4,g6,a5⟩;have d3:jI (Bez X Y s t):=⟨⟨f5,g4,g6⟩⟩;have h9:=xgv (b5.out s t d3.out);rw[HG.out]at b8;obtain⟨gn,ga,gl,gc,gx,rfl,f9⟩:=id b8;obtain⟨sn,sa,sl,w1,sx,rfl,g3⟩:=id d0;obtain⟨tn,ta,tl,tc,tx,rfl,g5⟩:=id d2;have n2:=xgw f9;have n4:=xgw g3;have n5:=xgw g5;clear f9 g3 g5 f5 g4 g6 z q A C L o p J K;go_upto_region 6 with(fail)
 refine zF ?_;intro W8 f0;obtain⟨b7,d7,d8,d9,s3⟩:=zBc f0;have Q:=nx a5 b7;have l:=l.trans (qK.of Z Q);have d:=xgv (d.out.I Q);have f:=f.I Q;have g:=g.I Q;have E:=E.I Q;have F:=F.I Q;have a0:=zB9.mk d7 (b8.ext (lx b7));have R:=zB9.mk d8 (d0.ext (lx b7));have S:=zB9.mk d9 (d2.ext (lx b7));have v9:=Q.size;have v8:=a5.size;clear f0 d7 d8 d9 b8 d0 d2;obtain⟨n8,a8,l8,c8,o,J⟩:=id E;obtain⟨l6,i3,l4,i5,b4,b3⟩:=id a0;obtain⟨z,q,A,C⟩:=o.two;have L:=b4.two;have t1:=o.lt;go_wp2_with fail
 refine(zD6 _ _ X G W8 J.J b3.J SX.out.sm SG.out.sm e7).mono ?_;rintro e w9 ⟨q0,r0,rfl,D,M,j⟩;obtain⟨qn,qa,ql,qc,qx,rfl,O⟩:=id D;have d5:=xgw O;clear O z q A C L b4 b3;have o:=o.I j;obtain⟨z,q,A,C⟩:=o.two;go_upto_region 7 with(fail)
 refine zF ?_;intro a4 c5;have a:zB0 [U] w9 a4:=by rw[c5.out];exact zQQ o
 have c7:¬ Z U:=fun h=>by have:=hZ _ h;omega
 have l:=(l.trans (qK.of Z j)).new a oM;have d:=xgv ((d.out.I j).only a c7 o);have E:zB9 a4 U (X/G):=by rw[c5.out];exact zB9.put o D
 have f:Blk a4 w.heap.size zEc #[niq r,niq c]:=(a.old _ (f.I j).lt (by simp;omega)).trans (f.I j);have g:Blk a4 (w.heap.size+1) 167 (zE3 bw):=(a.old _ (g.I j).lt (by simp;omega)).trans (g.I j);have F:=(F.I j).old (a.old _ (F.I j).lt (by simpa using qF h3)) a.lext;have a0:=(a0.I j).old (a.old _ (a0.I j).lt (by simp;omega)) a.lext;have R:=(R.I j).old (a.old _ (R.I j).lt (by simp;omega)) a.lext;have S:=(S.I j).old (a.old _ (S.I j).lt (by simp;omega)) a.lext;have t9:=a.bel.size;have w0:=j.size;clear c5 a z q A C o D M J;obtain⟨n9,a9,l9,c9,p,K⟩:=id F;obtain⟨l6,i3,l4,i5,b4,b3⟩:=id a0;obtain⟨z,q,A,C⟩:=p.two;have L:=b4.two;have t2:=p.lt;go_wp2_with fail
 refine(zD6 _ _ Y G a4 K.J b3.J SY.out.sm SG.out.sm e7).mono ?_;rintro e n0 ⟨q0,r0,rfl,D,M,v⟩;obtain⟨qn,qa,ql,qc,qx,rfl,O⟩:=id D;have d5:=xgw O;clear O z q A C L b4 b3;have p:=p.I v;obtain⟨z,q,A,C⟩:=p.two;go_upto_region 8 with(fail)
 refine zF ?_;intro b6 c6;have a:zB0 [P] n0 b6:=by rw[c6.out];exact zQQ p
 have c7:¬ Z P:=fun h=>by have:=hZ _ h;omega
 have l:=(l.trans (qK.of Z v)).new a oM;have d:=xgv ((d.out.I v).only a c7 p);have F:zB9 b6 P (Y/G):=by rw[c6.out];exact zB9.put p D
 have f:Blk b6 w.heap.size zEc #[niq r,niq c]:=(a.old _ (f.I v).lt (by simp;omega)).trans (f.I v);have g:Blk b6 (w.heap.size+1) 167 (zE3 bw):=(a.old _ (g.I v).lt (by simp;omega)).trans (g.I v);have E:=(E.I v).old (a.old _ (E.I v).lt (by simpa using h3)) a.lext;have R:=(R.I v).old (a.old _ (R.I v).lt (by simp;omega)) a.lext;have S:=(S.I v).old (a.old _ (S.I v).lt (by simp;omega)) a.lext;clear c6 a z q A C p D M K a0;have i0:jI (Sm (Y/G)):=⟨SY.out.sm.mono (zBN Y G)⟩;obtain⟨n8,a8,l8,c8,o,J⟩:=id E;obtain⟨n9,a9,l9,c9,p,K⟩:=id F;obtain⟨t7,n6,s5,o4,g9,l2⟩:=id R;obtain⟨t8,n7,s7,o5,h1,l3⟩:=id S;obtain⟨z,q,A,C⟩:=o.two;have L:=p.two;have u1:=g9.two;obtain⟨v1,v2,v3,v4⟩:=h1.two;have x1:=g.three;obtain⟨V,W,p3,p4⟩:=f.two;have l5:=f.lt;have l7:=g.lt;have s9:=o.lt;have t0:=p.lt;have s6:=g9.lt;have s8:=h1.lt;have r7:=zEG s t;have r8:=zEG (-(Y/G)) (X/G);have r9:=zGV s t (-(Y/G)) (X/G);refine yA 13 [pcD 7 [] (M2V s t),pcI 9 (-(Y/G)),pcD 11 [9] (M2V (-(Y/G)) (X/G)),pcD 12 [7,11] (fun w m7=>M4V w m7 s t (-(Y/G)) (X/G))] ?_;refine sRd ?_;refine sRc (fun wS hI T k=>?_) (fun x2 _=>?_)
 .skip
  go_simp;exact⟨k _ _ ⟨_,_,_,_,_,_,_,_,rfl,l2.ext hI.lext,l3.ext hI.lext⟩,zC _ _⟩
 refine sRd ?_;refine sRc (fun wS hI T k=>by go_simp;exact ck k (zBk _ (Y/G) _ (K.ext hI.lext).J i0.out)) (fun x3 _=>?_);refine sRd ?_;refine sRc (fun wS hI j T k=>?_) (fun x0 _=>?_)
 .obtain⟨o0,o3,o7,o8,x5,rfl,x6⟩:=id j
  go_simp;exact⟨k _ _ ⟨_,_,_,_,_,_,_,_,rfl,j,J.ext hI.lext⟩,zC _ _⟩
 refine sRc (fun wS hI a5 v T k=>?_) (fun m8 _=>?_)
 .obtain⟨p0,V,W,p3,p4,p5,p6,p7,rfl,p8,p9⟩:=a5
  obtain⟨q0,q1,q2,q3,q4,q5,q6,q7,rfl,q8,q9⟩:=v;go_simp;exact⟨k _ _ ⟨_,_,_,_,_,_,_,_,_,_,_,_,_,_,_,_,rfl,p8,p9,q8,q9⟩,zC _ _⟩
 refine sRe ?_;intro n1 f6 a5 j v k3;have k6:M4V n1 m8 s t (-(Y/G)) (X/G):=k3;have l:=l.trans (qK.of Z f6);have d:=xgv (d.out.I f6);clear z q A C L u1 v1 v2 v3 v4 x1 V W p3 p4;go_wp2_with fail
 refine(qBa hB.bsm d.out d4.out hr hm g2 k6 hn e5 e6 h9.out).mono ?_;rintro e x4 ⟨⟨uu,rfl⟩,k7,k1⟩;go_wp2;have hJ:zQx x r m c (x.mix r m s t (-(Y/G)) (X/G)):=by
  rw[<-HG.out,<-a1.out,<-a2.out];exact .mix s t (by rw[a1.out,a2.out];exact a7) (by rw[a1.out,a2.out];exact d3.out)
 exact bodyPost_end (results_none rfl _ _ _) rfl ⟨⟨_,rfl⟩,l.trans k7,_,hJ,k1⟩
end Go.Proofs.YtkidaebmhlijlaaGreat
