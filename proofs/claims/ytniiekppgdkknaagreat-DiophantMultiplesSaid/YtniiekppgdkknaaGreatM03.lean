/- Joined. -/
import Derived.StillTail
import Derived.Test.YtniiekppgdkknaaGreatM01
set_option linter.unusedVariables false
set_option linter.unusedSimpArgs false
set_option linter.unusedSectionVars false
set_option maxHeartbeats 16000000
set_option maxRecDepth 100000
variable{L:Array Bool}{a b:Int}{i j k n:Nat}{o:Go.Oper}{p q r s u:Prop}{w:Go.World}
namespace Go.Proofs.YtniiekppgdkknaaGreat
open Go.RowKit
theorem zUd(r:Value)(z:Int)(w:World)(B:yA w r z)(q:Sm z):CPq 109 #[r] w (zBk w z):=by
  obtain⟨neg,i,n,k,t,rfl,c,R,Q,E,m,d,o⟩:=B;have S:n<=LIM:=by rw[<-c];exact Sm.len (neg:=neg) (by rw[<-d];exact q) m
  have f:=zH c;have v:=zH d;have u:=zH o;clear c d q o;have D:n<=4*LIM:=oM;go_enter Tryz.func109,Tryz.ntmps109;go_upto_region 1 with(fail)
  refine zE ?_;intro g C;obtain⟨l,y,j,T⟩:=jW C;have K:=y.two;have L:=j.two;have J:=lx (nx l (dr g));go_region_held3 (fun s=>s.cell? ⟨w.heap.size,0,none⟩=some (.bool neg)/\s.cell? ⟨w.heap.size,1,none⟩=some (.slice i n k))
    ((((try go_split_ands);(repeat' apply And.intro))<;>first|exact zBr (by assumption)|exact qK (by assumption) a|exact qK (by assumption) a|exact zCf (zCf (by assumption) oM) oM))
    (first
      |((go_at_call 117;refine(zD9 i n k t _ f.out D (E.ext J)).mono ?_;rintro e U ⟨x,I,A,rfl,p,F,G,H,a⟩;have b:=j.drew.I a;obtain⟨M,N,O,P⟩:=b.two))
      |(fail))
  go_wp2_with fail
  refine yS rfl rfl rfl (b.put2 _ _) ?_ (yM (yM (nx (nx l (dr g)) a) oM 0 _) oM 1 _);refine yA.ext ?_ (b.lext2 dE _ _);exact⟨neg,x,I,A,t,rfl,p,F,G,H,m,v.out,fun h=>u.out (by rw[<-f.out,p,h])⟩
theorem zGc(d:Value)(z:Int)(w:World)(g:yA w d z):CPq 65 #[d] w fun e w'=>e= .returned (.bool true)/\BWq w w':=by
  obtain⟨neg,m,n,o,y,rfl,a,s,q,i,h,j,c⟩:=g;have l:=zH a;clear j;cases n with
  | zero=>
    obtain rfl:=c rfl;clear a;go_enter Tryz.func65,Tryz.ntmps65;go_wp2;go_ret;exact⟨rfl,(zB _ _).alloc (xgf _) _⟩
  | succ n=>
    obtain⟨b,v,x,rfl,p,u,f,r⟩:=i.limb (k:=n) oM;have t:((x:Int) !=0)=true:=by
      have:=h n a;rw[f.out]at this;simpa using this
    clear a c;go_enter Tryz.func65,Tryz.ntmps65;go_wp2;go_ret;exact⟨rfl,(zB _ _).alloc (xgf _) _⟩
theorem zJb(a b:Int):-1<=zAB a b/\zAB a b<=1:=by
  unfold zAB;by_cases c:a<b
  · rw[zC c];omega
  · rw[zA c];by_cases d:b<a
    · rw[zC d];omega
    · rw[zA d];omega
theorem zJc:(zAB a b=-1->a<b)/\(zAB a b=0->a=b)/\(zAB a b=1->b<a):=by
  rcases zAI a b with h|h|h
  · rw[zBb h];omega
  · rw[zCZ h];omega
  · rw[zB0 h];omega
theorem zKb(h:zAB a 0≠zAB b 0):zAB (zAB a 0) (zAB b 0)=zAB a b:=by
  rcases zAI a 0 with c|c|c<;>rcases zAI b 0 with hb|hb|hb
  all_goals first
    |(exfalso;apply h;first|rw[zBb c,zBb hb]|rw[zCZ c,zCZ hb]|rw[zB0 c,zB0 hb];done)
    | (first|rw[zBb c]|rw[zCZ c]|rw[zB0 c]
       first|rw[zBb hb]|rw[zCZ hb]|rw[zB0 hb]
       first|(rw[zBb (show a<b by omega)];rfl)|(rw[zB0 (show b<a by omega)];rfl))
theorem zKa(h:zAB a 0=zAB b 0):zAB a 0*zAB (a.natAbs:Nat) (b.natAbs:Nat)=zAB a b:=by
  rcases zAI a 0 with d|d|d
  · rw[zBb d]at h ⊢
    have e:b<0:=zJc.1 h.symm;rcases zAI a b with c|c|c
    · rw[zBb c,zB0 oM];rfl
    · rw[zCZ c,zCZ oM];rfl
    · rw[zB0 c,zBb oM];rfl
  · rw[zCZ d]at h ⊢
    have e:b=0:=zJc.2.1 h.symm;rw[zAM,zCZ (show a=b by omega)]
  · rw[zB0 d]at h ⊢
    have e:0<b:=zJc.2.2 h.symm;rw[jR];rcases zAI a b with c|c|c
    · rw[zBb c,zBb oM]
    · rw[zCZ c,zCZ oM]
    · rw[zB0 c,zB0 oM]
theorem zPu(n:Int)(a:-1<=n)(b:n<=1):IntKind.i64.wrap n=n:=yB n ⟨oM,oM⟩
theorem zLx(v1 v2:Value)(a b:Int)(w:World)(p:zHR w v1 a)(r:zHR w v2 b):CPq 96 #[v1,v2] w fun e w'=>e= .returned (niq (zAB a b))/\BWq w w':=by
  have H1:=zH p;have H2:=zH r;obtain⟨Z,d,i,n,y,rfl,l,a7,a4,b2,P,J⟩:=p;obtain⟨a0,f,j,o,z,rfl,m,a8,a5,b3,Q,K⟩:=r;have R:=fun W g=>zB3 d i n y W l a7 a4 g
  rw[<-l,zAT P,l]at R;have S:=fun W g=>zB3 f j o z W m a8 a5 g
  rw[<-m,zAT Q,m]at S;obtain⟨s,H⟩:∃s,zAB a 0=s:=⟨_,rfl⟩;obtain⟨t,I⟩:∃t,zAB b 0=t:=⟨_,rfl⟩;obtain⟨c,D⟩:∃c,zAB (nat y) (nat z)=c:=⟨_,rfl⟩;have a9:=zJb a 0;have b0:=zJb b 0;have a6:=zJb (nat y) (nat z);have U:=fun W g=>zAn (.agg #[.bool Z,.slice d i n]) a W g
  have V:=fun W g=>zAn (.agg #[.bool a0,.slice f j o]) b W g
  have F:=fun W p r=>zCk d f i i j j y z W l m (xgf _) (xgf _) oM oM p r P Q
  rw[H]at U a9;rw[I]at V b0;rw[D]at F a6;have G:Hid ((s≠t->zAB s t=zAB a b)/\(s=t->s*c=zAB a b)):=by
    subst H;subst I;subst D;refine⟨fun h=>zKb h,fun h=>?_⟩;have:=zKa h;rw[J,K,jA,jA]at this;rw[J,K];exact this
  clear l m J K H I D;go_enter Tryz.func96,Tryz.ntmps96;go_upto_region 1 with(fail)
  refine zE ?_;intro A a3;obtain⟨B,L,M,b5⟩:=jW a3;have N:=L.two;have O:=M.two;have b4:=lx (nx B (dr A));go_region_held3 (fun w'=>w'.cell? ⟨w.heap.size,0,none⟩=some (.bool Z)/\w'.cell? ⟨w.heap.size,1,none⟩=some (.slice d i n)/\w'.cell? ⟨w.heap.size+1,0,none⟩=some (.bool a0)/\w'.cell? ⟨w.heap.size+1,1,none⟩=some (.slice f j o))
    ((((try go_split_ands);(repeat' apply And.intro))<;>first|exact zBr (by assumption)|exact qK (by assumption) k|exact qK (by assumption) v|assumption))
    (first
      |(go_at_call_of 76 d;refine(U _ (H1.out.ext b4)).mono ?_;rintro e w1 ⟨rfl,k⟩)
      |(go_at_call_of 76 f;refine(V _ (H2.out.ext (lx (nx (nx B (dr A)) k)))).mono ?_;rintro e w2 ⟨rfl,v⟩))
  have u:=nx (nx (nx B (dr A)) k) v;by_cases x:s=t
  · subst x
    have e0:((s:Int) !=s)=false:=by simp
    have HR:Hid (s*c=zAB a b):=G.out.2 rfl;clear G;have hq:=fun W=>F W
    have a1:=(L.drew.I k).I v;have a2:=(M.drew.I k).I v;clear N O;go_wp2_with fail
    obtain⟨N,c2,c3,c4⟩:=a1.two;obtain⟨O,d2,d3,d4⟩:=a2.two;have X:=b2.ext (lx (nx u (dr w2)));have Y:=b3.ext (lx (nx u (dr w2)));go_region_held3 (fun w'=>w'.cell? ⟨w.heap.size,1,none⟩=some (.slice d i n)/\w'.cell? ⟨w.heap.size+1,1,none⟩=some (.slice f j o))
      ((((try go_split_ands);(repeat' apply And.intro))<;>first|exact zBr (by assumption)|exact qK (by assumption) (drN _ _)|assumption))
      (first
        |(go_at_call_of 110 d;refine(R _ X).mono ?_;rintro e w' ⟨rfl,rfl⟩)
        |(go_at_call_of 110 f;refine(S _ Y).mono ?_;rintro e w' ⟨rfl,rfl⟩)
        |(go_at_call 113;refine(F _ X Y).mono ?_;rintro e w' ⟨rfl,q,rfl⟩))
    go_wp2_with fail
    go_ret;have hr:=HR.out;have C:=zJb a b;refine⟨?_,nx u (drN _ _)⟩;rw[<-hr]at C ⊢
    first|rfl|(show _=Ending.returned (niq _);simp[IntWalk.wrap64_in _ ⟨show-9223372036854775808<=s*c by omega,oM⟩,zPu _ C.1 C.2])
  · have e0:((s:Int) !=t)=true:=by simpa using x
    have E:=G.out.1 x;have T:=fun W=>zFH s t W
    rw[E]at T;clear E x;go_wp2_with (go_at_call 129;refine(T _).mono ?_;rintro e w' ⟨rfl,rfl⟩)
    go_ret;exact⟨rfl,u⟩
theorem zG8(n:Nat)(h:n<4294967296):IntKind.u32.wrap (n:Int)=n:=by rw[zAg];omega
theorem zNN(a b:Nat)(c:b<4294967296):a*4294967296|||b=a*4294967296+b:=by
 have h:=Nat.shiftLeft_add_eq_or_of_lt (i:=32) (show b<2^32 from c) a;rw[Nat.shiftLeft_eq]at h;exact h.symm
theorem zNO(a b:Nat)(d:a<4294967296)(c:b<4294967296):bits BinOp.or IntKind.u64 ((a:Int)*4294967296) (b:Int)=((a*4294967296+b:Nat):Int):=by
 have h:=u64_or_nat (a*4294967296) b oM oM;rw[zNN a b c]at h;rw[<-h];simp
theorem zCM(xs:List Nat)(k:Nat)(h:k<xs.length):nat (xs.drop k)=xs.getD k 0+B32*nat (xs.drop (k+1)):=by
 rw[yX h,zBR,xgb,xga h];rfl
theorem zJL{xs zs:List Nat}{r d x:Nat}(h:nat (xs.drop (k+1))=nat (zs.drop (k+1))*d+r)(b:k<xs.length)(a:k<zs.length)(c:xs.getD k 0=x):
  nat (xs.drop k)=nat ((zs.set k ((r*4294967296+x)/d)).drop k)*d+(r*4294967296+x)%d:=by
 rw[zCM xs k b,zCM _ k (by simpa using a),c,h,zCw,xgb,List.getElem?_set_self a,zBV];simp only[Option.getD_some];have e:=jP (r*4294967296+x) d;generalize (r*4294967296+x)/d=q at*;generalize (r*4294967296+x)%d=s at*;generalize nat (List.drop (k+1) zs)=z at*;rw[zS,zP q d,jT,zN];omega
theorem zQq(m:Option Addr)(n A:Nat)(xs:List Nat)(d:Nat)(w:World)(s:xs.length=n)(B:n<=4*LIM)(l:qF w m xs)(q:0<d)(hd:d<4294967296):
  CPq 144 #[.slice m n A,.int .u32 (d:Nat)] w fun e w'=>
   ∃g h r,e= .returned (.tuple #[.slice (some ⟨g,0,none⟩) n n,.int .u32 (r:Nat)])/\zCG w' g h/\zAV h/\h.length=n/\r<d/\nat xs=nat h*d+r/\BWq w w':=by
 have K:=zH s;have D:xs.length<=n:=oM;have Q:n<=xs.length:=oM;clear s;rw[zAd]at B;have F:=fun W=>mkU (n:Int) n oM oM W
 go_enter Tryz.func144,Tryz.ntmps144;go_wp2;clear F;go_loopw [7,8] (fun J i wr=>∃(k r:Nat) (a:List Nat),k<=n/\i= .int .i64 ((k:Int)-1)/\J= .int .u64 r/\r<d/\zCG wr w.heap.size a/\BWq w wr/\n<=a.length∧
   Hid (a.length=n/\zAV a/\nat (xs.drop k)=nat (a.drop k)*d+r)) (fun _ i _=>(intOf i+1).toNat)
 case atStart=>exact⟨n,0,List.replicate n 0,oM,by go_num,rfl,oM,zCG.made _ _,(zB _ _).alloc (xgf _) _,by simp,⟨by simp,fun x l=>by rw[List.eq_of_mem_replicate l];exact zBj,by rw[qX D,qX sI];simp⟩⟩
 obtain⟨k,r,a,P,rfl,rfl,u,f,j,E,c⟩:=hrel;cases k with
 |zero=>
  go_wp2;go_ret2;refine⟨_,a,r,by congr 3,f,c.out.2.1,c.out.1,u,by simpa using c.out.2.2,j⟩
 | succ k=>
  have O:=f.frozen k;obtain⟨b,I,x,rfl,C,H,z,o⟩:=l.limb (k:=k) oM;have M:=(j.cell (p:=⟨b,I+k,none⟩) C).trans o;have N:=f.cell (k:=k) oM;clear o;have L:=zNO r x oM H;have t:(r*4294967296+x)/d<4294967296:=by
   rw[zA7 q];have:(r+1)*4294967296<=d*4294967296:=zK _ u;omega
  have G:(r*4294967296+x)%d<d:=yE _ q;have v:Hid (((r:Int)*4294967296+x)/d=(((r*4294967296+x)/d:Nat):Int)):=by show _=_;simp
  have y:Hid (((r:Int)*4294967296+x)%d=(((r*4294967296+x)%d:Nat):Int)):=by show _=_;simp
  go_wp2;go_roundw
  case rel=>exact⟨k,(r*4294967296+x)%d,a.set k ((r*4294967296+x)/d),oM,by go_num,by rw[y.out],G,f.set' _ _ _ (by rw[v.out];exact zG8 _ t),j.setCell (xgf _) _,by simpa using E,
    ⟨by simpa using c.out.1,c.out.2.1.set _ _ t,zJL c.out.2.2 oM oM z.out⟩⟩
  case measure=>simp[intOf]
section
variable {P:Program} {ops:Array Oper} {Q:Exit->Act->World->Prop}
def zCd(ops:Array Oper):Bool:=(List.range ops.size).all fun i=>((ops[i]?).map (fun o=>o.after.all fun e=>!Region.binds .any e||decide (e.on<i))).getD true
theorem zDI(h:zCd ops=true)(b:ops[i]?=some o):∀e∈o.after,Region.binds .any e=true->e.on<i:=by
 intro e f d;have g:i<ops.size:=(Array.getElem?_eq_some_iff.1 b).1;have a:=zW.1 h i (yR.2 g);rw[b]at a;have c:=Array.all_eq_true_iff_forall_mem.1 a e f;simpa[d]using c
theorem zEq(f:zCd ops=true)(m:L.size=ops.size)(k:Region.ready .any ops L= []):
  ∀i,i<ops.size->L[i]?=some true:=by
 intro i;induction i using Nat.strongRecOn with
 | ind i l=>
  intro b;have c:i<L.size:=by omega
  cases a:L[i]with
  |true=>rw[Array.getElem?_eq_getElem c,a]
  | false=>
   exfalso;have d:i∈Region.ready .any ops L:=by
    rw[mem_ready];refine⟨by simp[c,a],ops[i],Array.getElem?_eq_getElem b,?_⟩;intro e h g;have j:=zDI f (Array.getElem?_eq_getElem b) e h g;have:=l e.on j (by omega);simp[this]
   rw[k]at d;cases d
theorem zIp(b:L.size=n)(h:∀i,i<n->L[i]?=some true):L=Array.replicate n true:=by
 apply zDm;simp[b];intro i a c;have:=h i (by omega);rw[Array.getElem?_eq_getElem a]at this;simpa using this
def left(L:Array Bool):Nat:=L.toList.count false
theorem zJy(h:L[i]?=some false):left (L.setIfInBounds i true)+1=left L:=by
 unfold left;obtain⟨e,f⟩:=Array.getElem?_eq_some_iff.1 h;have a:i<L.toList.length:=by simpa using e
 rw[Array.toList_setIfInBounds,List.count_set a];have b:L.toList[i]=false:=by simpa using f
 have g:0<L.toList.count false:=List.count_pos_iff.2 (by rw[<-b];exact jE a);have c:(L.toList[i]==false)=true:=by rw[b];rfl
 have d:(true==false)=false:=rfl;rw[c,d];simp only[if_true,Bool.false_eq_true,if_false];omega
def zC6(o:Oper)(k:Nat):Bool:=o.after.any fun e=>Region.binds .any e && e.on==k
def zV(P:Program)(ops:Array Oper)(Q:Exit->Act->World->Prop)(ds:List Deferred)(I:Array Bool->Array Value->World->Prop)(i:Nat)(o:Oper):Prop:=
 ∀L T w,L[i]?=some false->(∀(k:Nat) (_:zC6 o k=true:=by kernel_rfl),L[k]?=some true)->(∀(j:Nat) (o':Oper),ops[j]?=some o'->L[j]?=some true->∀k,zC6 o' k=true->L[k]?=some true)->I L T w->∀K:Act->World->Prop,(∀T' w',I (L.setIfInBounds i true) T' w'->K ⟨T',ds⟩ w')->
   if Region.wanted o (yielded ops T)=true then Oper.wp P o ⟨T,ds⟩ w K Q else K ((⟨T,ds⟩:Act).put o.dst undef) w
theorem zD{T:Array Value}{A B:Prop}(h:Region.wanted o (yielded ops T)=true)(a:A):if Region.wanted o (yielded ops T)=true then A else B:=by
 rw[zC h];exact a
def zCH(ops:Array Oper)(L:Array Bool):Prop:=∀(j:Nat) (o':Oper),ops[j]?=some o'->L[j]?=some true->∀k,zC6 o' k=true->L[k]?=some true
theorem zCH.start:zCH ops (Array.replicate n false):=by
 intro j a _ h;rw[Array.getElem?_replicate]at h;split at h<;>simp at h
theorem zAv(h:L[j]?=some true):(L.setIfInBounds i true)[j]?=some true:=by
 by_cases e:i=j
 .subst e
  exact Array.getElem?_setIfInBounds_self_of_lt (Array.getElem?_eq_some_iff.1 h).1
 rw[xgc e];exact h
theorem zCH.set(h:zCH ops L)(f:ops[i]?=some o)(hd:∀k,zC6 o k=true->L[k]?=some true):zCH ops (L.setIfInBounds i true):=by
 intro j d c a k b;by_cases e:i=j
 .subst e
  have:d=o:=qC (c.symm.trans f);subst this;exact zAv (hd k b)
 rw[xgc e]at a;exact zAv (h j d c a k b)
theorem zRE{I:Array Bool->Array Value->World->Prop}{f:List Deferred}(q:zCd ops=true)
  (J:∀i o,ops[i]?=some o->zV P ops Q f I i o)
  (u:∀T w,I (Array.replicate ops.size true) T w->Q .normal ⟨T,f⟩ w):
  ∀(c:Nat) (L:Array Bool) (T:Array Value) (w:World),L.size=ops.size->left L<=c->zCH ops L->I L T w->wpAny P .any ops Q c L ⟨T,f⟩ w:=by
 intro c;induction c with
 | zero=>
  intro L T w d G l hI;have g:∀i,i<ops.size->L[i]?=some true:=by
   intro i v;have y:i<L.size:=by omega
   cases s:L[i]with
   |true=>rw[Array.getElem?_eq_getElem y,s]
   |false=>
    exfalso;have:=zJy (L:=L) (i:=i) (by rw[Array.getElem?_eq_getElem y,s]);omega
  have F:=zIp d g;refine⟨?_,u T w (F ▸ hI)⟩;cases m:Region.ready .any ops L with
  |nil=>rfl
  |cons x U=>
   have A:x∈Region.ready .any ops L:=by rw[m];simp
   rw[mem_ready]at A;obtain⟨j,o,a,-⟩:=A;have K:x<ops.size:=(Array.getElem?_eq_some_iff.1 a).1;have:=g x K;simp[this]at j
 | succ c M=>
  intro L T w d G l hI;refine⟨fun m=>u T w (zIp d (zEq q d m) ▸ hI),?_⟩;intro i v;obtain⟨j,o,a,g⟩:=mem_ready.1 v;have O:i<ops.size:=(Array.getElem?_eq_some_iff.1 a).1;have z:i<L.size:=by omega
  have p:L[i]?=some false:=by
   rw[Array.getElem?_eq_getElem z];simpa[z]using j
  have t:∀k,zC6 o k=true->L[k]?=some true:=by
   intro k b;unfold zC6 at b;rw[<-zAe,zAN]at b;obtain⟨e,h,b⟩:=b;have h:=Array.mem_toList_iff.1 h;simp only[Bool.and_eq_true,beq_iff_eq]at b;obtain⟨r,H⟩:=b;subst H;have S:=zDI q a e h r;have D:=g e h r;have n:e.on<L.size:=by omega
   rw[Array.getElem?_eq_getElem n];simpa[n]using D
  have R:=zJy p;refine wpOp_step a (fun B hK=>?_);exact J i o a L T w p t l hI B (fun C N E=>hK ⟨C,f⟩ N (M _ _ _ (by simp[d]) (by omega) (l.set a t) E))
theorem zKG{id:Nat}{T0:Array Value}{a:List Deferred}{w:World}(e:P.follows .mixedOrders=true)(I:Array Bool->Array Value->World->Prop)(c:zCd ops=true)
  (b:I (Array.replicate ops.size false) T0 w.drew)
  (f:∀i o,ops[i]?=some o->zV P ops Q a I i o)
  (d:∀T w,I (Array.replicate ops.size true) T w->Q .normal ⟨T,a⟩ w):(Code.region id ops true).wp P Q ⟨T0,a⟩ w:=
 wp_region_any e (zRE c f d ops.size _ T0 _ (by simp) (by
  unfold left
  rw[Array.toList_replicate,zBv]
  simp) zCH.start b)
def zHo(p:Nat->Oper->Prop):Nat->List Oper->Prop
 |_,[]=>True
 |i,o::os=>p i o/\zHo p (i+1) os
theorem zHo.get{p:Nat->Oper->Prop}:∀{l:List Oper} {k:Nat},zHo p k l->∀i o,l[i]?=some o->p (k+i) o
 | [],_,_,i,o,h=>by simp at h
 | x::b,k,a,i,o,h=>by
  cases i with
  |zero=>simp at h;subst h;exact a.1
  |succ i=>
   have:=zHo.get a.2 i o (by simpa using h);rwa[show k+1+i=k+(i+1) by omega]at this
theorem zBJ{id:Nat}{a:List Oper}{T0:Array Value}{b:List Deferred}{w:World}(f:P.follows .mixedOrders=true)(I:Array Bool->Array Value->World->Prop)(d:zCd a.toArray=true)
  (c:I (Array.replicate a.length false) T0 w.drew)
  (e:∀T w,I (Array.replicate a.length true) T w->Q .normal ⟨T,b⟩ w)
  (h:zHo (zV P a.toArray Q b I) 0 a):(Code.region id a.toArray true).wp P Q ⟨T0,b⟩ w:=
 zKG f I d (by simpa using c) (fun i o g=>by
  have:=h.get i o (by simpa using g);rw[jC]at this;exact this) (by simpa using e)
end
section
variable {P:Program} {l:List Oper} {Q:Exit->Act->World->Prop}
def zH7(n m:Nat):Array Bool:=(List.replicate n true++List.replicate (m-n) false).toArray
def zMD(l:List Oper)(n:Nat):Bool:=
 decide (n<l.length) && zCd l.toArray && Region.sinkB .any l.toArray n && Region.chainB .any l.toArray n && Region.seqB .any l.toArray (l.length-n) n (zH7 n l.length)
theorem zP2(l:n<=L.size)(k:∀t,n<=t->t<L.size->L[t]?=some false)(a:left L=L.size-n):L=zH7 n L.size:=by
 have c:L.toList=L.toList.take n++L.toList.drop n:=(List.take_append_drop n _).symm;have d:L.toList.drop n=List.replicate (L.size-n) false:=by
  apply qI;simp;intro i j _;simp only[List.getElem_drop,List.getElem_replicate];have:=k (n+i) (by omega) (by simp at j;omega);obtain⟨_,h⟩:=Array.getElem?_eq_some_iff.1 this;simpa using h
 have e:(L.toList.take n).count false=0:=by
  unfold left at a;rw[c,List.count_append,d,zBv]at a;simp at a;simpa using a
 have f:L.toList.take n=List.replicate n true:=by
  rw[List.eq_replicate_iff];refine⟨by simp;omega,fun b g=>?_⟩;cases b with
  |true=>rfl
  |false=>exact absurd g (List.count_eq_zero.1 e)
 apply Array.toList_inj.1;rw[c,d,f];simp[zH7]
theorem zOy{I:Array Bool->Array Value->World->Prop}{c:List Deferred}(s:zMD l n=true)
  (a5:∀i o,l[i]?=some o->i<n->zV P l.toArray Q c I i o)
  (Y:∀T w,I (zH7 n l.length) T w->wpList P l.toArray Q (l.drop n) ⟨T,c⟩ w):
  ∀(f:Nat) (L:Array Bool) (T:Array Value) (w:World),HeadInv .any l.toArray n L->left L=f+(l.length-n)->zCH l.toArray L->I L T w->wpAny P .any l.toArray Q (f+(l.length-n)) L ⟨T,c⟩ w:=by
 unfold zMD at s;simp only[Bool.and_eq_true,decide_eq_true_eq]at s;obtain⟨⟨⟨⟨hn,C⟩,a3⟩,X⟩,a4⟩:=s;have M:∀{L:Array Bool},HeadInv .any l.toArray n L->∀t,n<=t->t<L.size->L[t]?=some false:=by
  intro L a t ht N;have:=a.tail t ht (by have:=a.size;omega);rw[Array.getElem?_eq_getElem N];simpa[N]using this
 intro f;induction f with
 | zero=>
  intro L T w a g v hI;have y:L.size=l.length:=by simpa using a.size
  have V:L=zH7 n l.length:=by
   have:=zP2 (L:=L) (n:=n) (by omega) (M a) (by rw[g,y];omega);rwa[y]at this
  subst V;rw[jC];have G:(l.drop n).length=l.length-n:=by simp
  have:=wpAny_of_seq (P:=P) (md:=.any) (ops:=l.toArray) (Q':=Q) (l.drop n) n (zH7 n l.length) ⟨T,c⟩ w (fun j=>by simp[List.getElem?_drop]) (by rw[G];exact a4) (Y T w hI);rwa[G]at this
 | succ f ih=>
  intro L T w a g v hI;have y:L.size=l.length:=by simpa using a.size
  rw [show f+1+(l.length-n)=(f+(l.length-n))+1 by omega];have Z:∃i,i<n/\L[i]?=some false:=by
   refine jU fun a1=>?_
   have u:∀i,i<n->L[i]?=some true:=by
    intro i d;have H:i<L.size:=by omega
    cases E:L[i]with
    |true=>rw[Array.getElem?_eq_getElem H,E]
    |false=>exact absurd ⟨i,d,by rw[Array.getElem?_eq_getElem H,E]⟩ a1
   have W:L=zH7 n l.length:=by
    apply zAh;intro j;unfold zH7;rcases zJ j n with hj|hj
    rw[u j hj];simp[List.getElem?_append,hj];rcases zJ j L.size with x|x
    .rw[M a j hj x]
     have:j-n<l.length-n:=by omega
     simp[List.getElem?_append,Nat.not_lt.2 hj,this]
    rw[Array.getElem?_eq_none x];symm;simp;try omega
   rw[W]at g;unfold left zH7 at g;simp[List.count_replicate]at g
  obtain⟨A,a0,z⟩:=Z;have a6:L.getD A true=false:=by
   obtain⟨r,p⟩:=Array.getElem?_eq_some_iff.1 z;simp[r,p]
  refine⟨fun hr=>?_,?_⟩
  .have:=zEq C a.size hr A (by simp;omega)
   rw[this]at z;cases z
  intro i d;have K:i<n:=by
   rcases zJ i n with h|h
   exact h;exact absurd d (tail_waits a3 X (by simpa using hn) a _ A rfl a0 a6 i h)
  obtain⟨S,o,m,u⟩:=mem_ready.1 d;have a7:i<l.length:=by have:=(Array.getElem?_eq_some_iff.1 m).1;simpa using this
  have J:i<L.size:=by omega
  have B:L[i]?=some false:=by
   rw[Array.getElem?_eq_getElem J];simpa[J]using S
  have F:∀k,zC6 o k=true->L[k]?=some true:=by
   intro k b;unfold zC6 at b;rw[<-zAe,zAN]at b;obtain⟨e,q,b⟩:=b;have q:=Array.mem_toList_iff.1 q;simp only[Bool.and_eq_true,beq_iff_eq]at b;obtain⟨D,a2⟩:=b;subst a2;have a9:=zDI C m e q D;have r:=u e q D;have p:e.on<L.size:=by omega
   rw[Array.getElem?_eq_getElem p];simpa[p]using r
  have a8:=zJy B;refine wpOp_step m (fun O hK=>?_);exact a5 i o (by simpa using m) K L T w B F v hI O (fun R w' U=>hK ⟨R,c⟩ w' (ih _ _ _ (a.set d K) (by omega) (v.set m F) U))
theorem zBF{id:Nat}{T0:Array Value}{a:List Deferred}{w:World}(n:Nat)(g:P.follows .mixedOrders=true)(I:Array Bool->Array Value->World->Prop)(b:zMD l n=true)
  (d:I (Array.replicate l.length false) T0 w.drew)
  (e:∀T w,I (zH7 n l.length) T w->wpList P l.toArray Q (l.drop n) ⟨T,a⟩ w)
  (m:zHo (zV P l.toArray Q a I) 0 (l.take n)):(Code.region id l.toArray true).wp P Q ⟨T0,a⟩ w:=by
 have r:n<l.length:=by
  unfold zMD at b;simp only[Bool.and_eq_true,decide_eq_true_eq]at b;exact b.1.1.1.1
 have k:∀i o,l[i]?=some o->i<n->zV P l.toArray Q a I i o:=by
  intro i o h f;have:=m.get i o (by rw[List.getElem?_take_of_lt f];exact h);rw[jC]at this;exact this
 have q:HeadInv .any l.toArray n (Array.replicate l.toArray.size false):=
  ⟨by simp,fun j s _ c=>(by rw[getD_replicate_false]at c;cases c),fun t _ p=>getD_in (by simpa using p) (getD_replicate_false _ _)⟩
 have H:=zOy b k e n (Array.replicate l.toArray.size false) T0 w.drew q (by unfold left;rw[Array.toList_replicate,zBv];simp;omega) zCH.start (by simpa using d);refine wp_region_any g ?_;rw[show n+(l.length-n)=l.toArray.size by simp;omega]at H;exact H
end
theorem zCW:∀(b:List (Nat × Value)) {T T0:Array Value},(∀j,(∀p∈b,p.1≠j)->T[j]?=T0[j]?)->(∀p∈b,T[p.1]?=some p.2)->T.size=T0.size->
  T=b.foldl (fun a p=>a.setIfInBounds p.1 p.2) T0
 | [],T,T0,h,_,_=>zAh (fun j=>h j (fun p hp=>by cases hp))
 | (k,v)::b,T,T0,h,f,d=>by
  refine zCW b (T0:=T0.setIfInBounds k v) ?_ (fun p hp=>f p (qG _ hp)) (by simp[d]);intro j i;have c:=f (k,v) (by simp);by_cases e:k=j
  .subst e
   have l:k<T0.size:=by rw[<-d];exact(Array.getElem?_eq_some_iff.1 c).1
   rw[Array.getElem?_setIfInBounds_self_of_lt l];exact c
  rw[xgc e];refine h j ?_;intro p hp;rcases List.mem_cons.1 hp with g|hp
  rw[g];exact e;exact i p hp
theorem qV{e p:Type}{f:e->p}:∀{l:List e},(l.map f).Nodup->∀{a b:e},a∈l->b∈l->f a=f b->a=b
 | [],_,_,_,h,_,_=>by cases h
 | x::q,m,a,b,o,k,d=>by
  rw[List.map_cons,zCr]at m;obtain⟨i,n⟩:=m;rcases List.mem_cons.1 o with g|j
  .rcases List.mem_cons.1 k with c|hb'
   .rw[g,c]
   exact absurd (List.mem_map.2 ⟨b,hb',by rw[<-d,g]⟩) i
  rcases List.mem_cons.1 k with c|hb'
  exact absurd (List.mem_map.2 ⟨a,j,by rw[d,c]⟩) i;exact qV n j hb' d
/-! ### The invariant: values in their slots,boxes of two cells -/
structure qS(p:Prop):Prop where
 out:p
theorem xgv(h:p):qS p:=⟨h⟩
theorem xgw(h:p):Hid p:=zH h
structure VS where
 op:Nat
 slot:Nat
 P:World->Value->Prop
structure BS where
 al:Nat
 slot:Nat
 st:Nat
 P:World->Value->Prop
def zGf(P:World->Value->Prop):Prop:=∀w w' v,zBC w w'->P w v->P w' v
theorem zEF(z:Int):zGf (fun w v=>yA w v z):=fun _ _ _ e h=>h.ext e
theorem zJt(x:Value):zGf (fun _ v=>v=x):=fun _ _ _ _ h=>h
def ptr(b:Nat):Value:=ptq b 0
structure ES where
 st:Nat
 blk:Nat
 P:World->Value->Prop
def zEr(N:Nat)(vs:List VS)(bs:List BS)(es:List ES):Bool:=
 let slots:=vs.map (·.slot)++bs.map (·.slot)
 let ops:=vs.map (·.op)++bs.map (·.al)++(bs.map (·.st)++es.map (·.st))
 decide slots.Nodup && decide ops.Nodup && slots.all (fun s=>decide (s<N))
structure RI(W:World)(n0:Nat)(T0:Array Value)(tB:TypeId)(vs:List VS)(bs:List BS)(es:List ES)(L:Array Bool)(T:Array Value)(w:World):Prop where
 wf:zEr T0.size vs bs es=true
 tb:tB≠tU
 lv:∀s∈vs,zGf s.P
 lb:∀s∈bs,zGf s.P
 le:∀s∈es,zGf s.P
 eb:∀s∈es,s.blk<n0
 ed:∀s∈es,∀t∈es,s.st≠t.st->s.blk≠t.blk
 size:T.size=T0.size
 keep:∀j,(∀s∈vs,s.slot≠j)->(∀s∈bs,s.slot≠j)->T[j]?=T0[j]?
 bel0:Below 0 W w
 old:∀k,k<n0->(∀s∈es,s.blk≠k)->w.heap[k]?=W.heap[k]?
 lext:zBC W w
 ge:n0<=w.heap.size
 sto:∀s∈bs,L[s.st]?=some true->L[s.al]?=some true
 val:∀s∈vs,L[s.op]?=some true->∃v,T[s.slot]?=some v/\s.P w v
 box:∀s∈bs,L[s.al]?=some true->∃b x y,T[s.slot]?=some (ptr b)/\n0<=b/\Blk w b tB #[x,y]/\(L[s.st]?=some true->s.P w (.agg #[x,y]))
 far:∀s∈bs,∀t∈bs,s.al≠t.al->L[s.al]?=some true->L[t.al]?=some true->∀b c,T[s.slot]?=some (ptr b)->T[t.slot]?=some (ptr c)->b≠c
 ex:∀s∈es,(∃x y,Blk w s.blk tB #[x,y]/\(L[s.st]?=some true->s.P w (.agg #[x,y])))/\(L[s.st]?≠some true->w.heap[s.blk]?=W.heap[s.blk]?)
section
variable {W:World} {n0:Nat} {T0:Array Value} {tB:TypeId} {vs:List VS} {bs:List BS} {es:List ES} {L:Array Bool} {T:Array Value} {w w':World}
theorem qR(h:(L.setIfInBounds i true)[j]?=some true)(a:i≠j):L[j]?=some true:=by
 rwa[xgc a]at h
theorem zIV(h:(L.setIfInBounds i true)[j]?≠some true):L[j]?≠some true:=fun a=>h (zAv a)
theorem RI.start(m:zEr T0.size vs bs es=true:=by kernel_rfl)(l:tB≠tU:=by decide)(hv:∀s∈vs,zGf s.P:=by repeat' (first|exact zEF _|exact zJt _|assumption|refine xgm.2 ⟨?_,?_⟩|exact xgn _))(b:∀s∈bs,zGf s.P:=by repeat' (first|exact zEF _|exact zJt _|assumption|refine xgm.2 ⟨?_,?_⟩|exact xgn _))(e:∀s∈es,zGf s.P:=by repeat' (first|exact zEF _|exact zJt _|assumption|refine xgm.2 ⟨?_,?_⟩|exact xgn _))(c:∀s∈es,s.blk<n0:=by repeat' (first|refine xgm.2 ⟨?_,?_⟩|exact xgn _|(dsimp only;omega)))
  (d:∀s∈es,∀t∈es,s.st≠t.st->s.blk≠t.blk:=by repeat' (first|refine xgm.2 ⟨?_,?_⟩|exact xgn _|(intro h;exact absurd rfl h)|(intro _;dsimp only;omega))) (f:∀s∈es,∃x y,Blk W s.blk tB #[x,y]:=by repeat' (first|refine xgm.2 ⟨?_,?_⟩|exact xgn _|exact⟨_,_,by assumption⟩)) (g:n0<=W.heap.size:=by first|exact xgf _|omega) {n:Nat}:RI W n0 T0 tB vs bs es (Array.replicate n false) T0 W.drew:=by
 have a:∀k:Nat,(Array.replicate n false)[k]?≠some true:=by
  intro k h;rw[Array.getElem?_replicate]at h;split at h<;>simp at h
 exact⟨m,l,hv,b,e,c,d,rfl,fun _ _ _=>rfl,(zB _ _).drew,fun _ _ _=>rfl,zBC.refl W,g,fun s _ h=>absurd h (a _),fun s _ h=>absurd h (a _),fun s _ h=>absurd h (a _),fun s _ t _ _ h=>absurd h (a _),
  fun s j=>⟨(f s j).elim fun x h=>h.elim fun y h=>⟨x,y,h,fun i=>absurd i (a _)⟩,fun _=>rfl⟩⟩
theorem RI.world(h:RI W n0 T0 tB vs bs es L T w)(c:BWq w w'):RI W n0 T0 tB vs bs es L T w':=by
 have g:zBC w w':=zBC.I c (xgf _);refine⟨h.wf,h.tb,h.lv,h.lb,h.le,h.eb,h.ed,h.size,h.keep,h.bel0.trans (c.mono (zG _)),fun k l n=>(c.block k (zI l h.ge)).trans (h.old k l n),h.lext.trans g,zF h.ge c.size,h.sto,?_,?_,h.far,?_⟩
 .intro s a j
  obtain⟨v,d,e⟩:=h.val s a j;exact⟨v,d,h.lv s a _ _ _ g e⟩
 .intro s a j
  obtain⟨b,x,y,d,e,i,m⟩:=h.box s a j;exact⟨b,x,y,d,e,i.I c,fun f=>h.lb s a _ _ _ g (m f)⟩
 intro s a;obtain⟨⟨x,y,d,e⟩,i⟩:=h.ex s a;exact⟨⟨x,y,d.I c,fun f=>h.le s a _ _ _ g (e f)⟩,fun f=>(c.block _ d.lt).trans (i f)⟩
theorem zEr.parts{N:Nat}(f:zEr N vs bs es=true):
  (∀s∈vs,s.slot<N)/\(∀s∈bs,s.slot<N)∧
  (∀s∈vs,∀t∈vs,t≠s->t.op≠s.op/\t.slot≠s.slot)∧
  (∀s∈bs,∀t∈bs,t≠s->t.al≠s.al/\t.slot≠s.slot/\t.st≠s.st)∧
  (∀s∈vs,∀t∈bs,s.op≠t.al/\s.op≠t.st/\s.slot≠t.slot)∧
  (∀s∈bs,∀t∈bs,s.al≠t.st)∧
  (∀s∈es,∀t∈es,t≠s->t.st≠s.st)∧
  (∀s∈es,(∀t∈vs,s.st≠t.op)/\∀t∈bs,s.st≠t.al/\s.st≠t.st):=by
 unfold zEr at f;simp only[Bool.and_eq_true,decide_eq_true_eq,List.all_eq_true]at f;obtain⟨⟨k,l⟩,o⟩:=f;rw[yI]at k;obtain⟨r,u,v⟩:=k;rw[yI]at l;obtain⟨m,n,d⟩:=l;rw[yI]at m n;obtain⟨w,x,y⟩:=m;obtain⟨z,A,B⟩:=n;have j:∀s∈vs,s.op∈vs.map (·.op):=fun s a=>List.mem_map.2 ⟨s,a,rfl⟩
 have q:∀s∈vs,s.slot∈vs.map (·.slot):=fun s a=>List.mem_map.2 ⟨s,a,rfl⟩
 have g:∀s∈bs,s.al∈bs.map (·.al):=fun s a=>List.mem_map.2 ⟨s,a,rfl⟩
 have p:∀s∈bs,s.slot∈bs.map (·.slot):=fun s a=>List.mem_map.2 ⟨s,a,rfl⟩
 have h:∀s∈bs,s.st∈bs.map (·.st):=fun s a=>List.mem_map.2 ⟨s,a,rfl⟩
 have i:∀s∈es,s.st∈es.map (·.st):=fun s a=>List.mem_map.2 ⟨s,a,rfl⟩
 refine⟨fun s a=>o _ (jO _ (q s a)),fun s a=>o _ (zAj _ (p s a)),?_,?_,?_,?_,?_,?_⟩;exact fun s a t b c=>⟨fun e=>c (qV w b a e),fun e=>c (qV r b a e)⟩
 exact fun s a t b c=>⟨fun e=>c (qV x b a e),fun e=>c (qV u b a e),fun e=>c (qV z b a e)⟩
 exact fun s a t b=>⟨y _ (j s a) _ (g t b),d _ (jO _ (j s a)) _ (jO _ (h t b)),v _ (q s a) _ (p t b)⟩
 exact fun s a t b=>d _ (zAj _ (g s a)) _ (jO _ (h t b))
 exact fun s a t b c e=>c (qV A b a e)
 exact fun s a=>⟨fun t b=>zL (d _ (jO _ (j t b)) _ (zAj _ (i s a))),
  fun t b=>⟨zL (d _ (zAj _ (g t b)) _ (zAj _ (i s a))),zL (B _ (h t b) _ (i s a))⟩⟩
theorem RI.value{v:Value}(h:RI W n0 T0 tB vs bs es L T w)(s:VS)(e:s∈vs)(D:s.op=k)(C:s.P w v):
  RI W n0 T0 tB vs bs es (L.setIfInBounds k true) (T.setIfInBounds s.slot v) w:=by
 subst D;obtain⟨J,O,K,P,n,Q,R,M⟩:=zEr.parts h.wf;refine⟨h.wf,h.tb,h.lv,h.lb,h.le,h.eb,h.ed,by simp[h.size],fun j d f=>by rw[xgc (d s e)];exact h.keep j d f,h.bel0,h.old,h.lext,h.ge,
  fun t a l=>zAv (h.sto t a (qR l (n s e t a).2.1)),?_,?_,?_,?_⟩
 .intro t a l
  by_cases z:t=s
  .subst z
   exact⟨v,by rw[Array.getElem?_setIfInBounds_self_of_lt (by rw[h.size];exact J _ e)],C⟩
  obtain⟨g,m⟩:=K s e t a z;obtain⟨u,d,f⟩:=h.val t a (qR l (zL g));exact⟨u,by rw[xgc (zL m)];exact d,f⟩
 .intro t a l
  obtain⟨g,m,p⟩:=n s e t a;obtain⟨b,x,y,d,f,o,B⟩:=h.box t a (qR l g);exact⟨b,x,y,by rw[xgc p];exact d,f,o,fun i=>B (qR i m)⟩
 .intro t a u A G E F b c q r
  obtain⟨g,m,p⟩:=n s e t a;obtain⟨H,N,I⟩:=n s e u A;rw[xgc p]at q;rw[xgc I]at r;exact h.far t a u A G (qR E g) (qR F H) b c q r
 intro t a;have g:=(M t a).1 s e;obtain⟨⟨x,y,d,f⟩,o⟩:=h.ex t a;exact⟨⟨x,y,d,fun i=>f (qR i (zL g))⟩,fun i=>o (zIV i)⟩
theorem RI.v{s:VS}(h:RI W n0 T0 tB vs bs es L T w)(b:s∈vs)(a:L[s.op]?=some true):∃v,T[s.slot]?=some v/\s.P w v:=h.val s b a
theorem RI.y{v:Value}(h:RI W n0 T0 tB vs bs es L T w){s:VS}(c:s∈vs)(a:s.P w v)(b:s.op=k:=by rfl):RI W n0 T0 tB vs bs es (L.setIfInBounds k true) (T.setIfInBounds s.slot v) w:=h.value s c b a
theorem RI.cell{b o:Nat}{v:Value}(h:RI W n0 T0 tB vs bs es L T w)(hc:W.cell? ⟨b,o,none⟩=some v)(a:b<n0)(c:∀s∈es,s.blk≠b):w.cell? ⟨b,o,none⟩=some v:=
 (World.cell?_of_block (w:=W) (h.old b a c)).trans hc
theorem RI.bel(h:RI W n0 T0 tB vs bs es L T w)(B:Nat)(c:B<=n0)(a:∀s∈es,B<=s.blk):Below B W w:=
 ⟨h.bel0.os,h.bel0.tape,h.bel0.output,h.bel0.size,fun k d=>h.old k (by omega) (fun s b=>by have:=a s b;omega)⟩
end
abbrev E(i s:Nat)(x:Value):VS:=⟨i,s,fun _ v=>v=x⟩
abbrev EI(i s:Nat)(z:Int):VS:=⟨i,s,fun w v=>yA w v z⟩
abbrev VP(i s b o:Nat):VS:=⟨i,s,fun _ v=>v=ptq b o⟩
abbrev VSl(i s b n c:Nat):VS:=⟨i,s,fun _ v=>v=slq b n c⟩
abbrev VN(i s:Nat)(n:Int):VS:=⟨i,s,fun _ v=>v=niq n⟩
def Fin(w:World):List VS->Array Value->Array Value->Prop
 | [],T0,T=>T=T0
 |s::vs,T0,T=>∃v,s.P w v/\Fin w vs (T0.setIfInBounds s.slot v) T
theorem zPe{w:World}:∀(vs:List VS) {T0 T:Array Value},(∀j,(∀s∈vs,s.slot≠j)->T[j]?=T0[j]?)->(∀s∈vs,∃v,T[s.slot]?=some v/\s.P w v)->T.size=T0.size->(vs.map (·.slot)).Nodup->Fin w vs T0 T
 | [],T0,T,h,_,_,_=>zAh (fun j=>h j (fun p k=>by cases k))
 | s::vs,T0,T,h,d,c,b=>by
  obtain⟨v,a,f⟩:=d s (by simp);rw[List.map_cons,zCr]at b;refine⟨v,f,zPe vs (fun j g=>?_) (fun t ht=>d t (qG _ ht)) (by simp[c]) b.2⟩;by_cases e:s.slot=j
  .subst e
   have i:s.slot<T0.size:=by rw[<-c];exact(Array.getElem?_eq_some_iff.1 a).1
   rw[a,Array.getElem?_setIfInBounds_self_of_lt i]
  rw[xgc e];exact h j (fun t ht=>by
   rcases List.mem_cons.1 ht with rfl|ht
   exact e;exact g t ht)
def zWm(w:World)(n0:Nat)(tB:TypeId):List BS->List Nat->Array Value->Array Value->Prop
 | [],_,T0,T=>T=T0
 |b::bs,u,T0,T=>∃c x y,n0<=c/\Blk w c tB #[x,y]/\b.P w (.agg #[x,y])/\(∀d∈u,d≠c)/\zWm w n0 tB bs (c::u) (T0.setIfInBounds b.slot (ptr c)) T
def zWn(w:World)(n0:Nat)(tB:TypeId)(bs:List BS):List VS->Array Value->Array Value->Prop
 | [],T0,T=>zWm w n0 tB bs [] T0 T
 |s::vs,T0,T=>∃v,s.P w v/\zWn w n0 tB bs vs (T0.setIfInBounds s.slot v) T
section
variable {W:World} {n0:Nat} {T0:Array Value} {tB:TypeId} {vs:List VS} {bs:List BS} {es:List ES} {L:Array Bool} {T:Array Value} {w w':World}
end
theorem xgu(h:p:=by(go_simp;first|exact hK _ _ (hI.q mm0)|exact hK _ _ (hI.q mm1)|exact hK _ _ (hI.q mm2)|exact hK _ _ (hI.q mm3)|exact hK _ _ (hI.q mm4)|exact hK _ _ (hI.q mm5)|exact hK _ _ (hI.q mm6)|exact hK _ _ (hI.q mm7)|exact hK _ _ (hI.q mm8)|exact hK _ _ (hI.q mm9)|exact hK _ _ (hI.q zHa)|exact hK _ _ (hI.q zHH)|exact hK _ _ (hI.q zHT)|exact hK _ _ (hI.q zIh)|exact hK _ _ (hI.q zKJ)|exact hK _ _ (hI.q zJ3)|exact hK _ _ (hI.q zLe)|exact hK _ _ (hI.q zLf)|exact hK _ _ (hI.q zLg)|exact hK _ _ (hI.q zLh)|exact hK _ _ (hI.q zLi)|exact hK _ _ (hI.q zLj)|exact hK _ _ (hI.q zLk)|exact hK _ _ (hI.q zLl)|exact hK _ _ (hI.q zLm)|exact hK _ _ (hI.q zLn)|exact hK _ _ (hI.q zNI)|exact hK _ _ (hI.q zOF)|exact hK _ _ (hI.q zO0)|exact hK _ _ (hI.q zO1)|exact hK _ _ (hI.q mm30)|exact hK _ _ (hI.q mm31)|exact hK _ _ (hI.q mm32)|exact hK _ _ (hI.q mm33)|exact hK _ _ (hI.q mm34)|exact hK _ _ (hI.q mm35)|exact hK _ _ (hI.q mm36)|exact hK _ _ (hI.q mm37)|exact hK _ _ (hI.q mm38)|exact hK _ _ (hI.q mm39)|exact hK _ _ (hI.q mm40))):p:=h
theorem xgs(a:q)(h:q->p:=by(intro a;go_simp;first|exact hK _ _ (hI.q mm0)|exact hK _ _ (hI.q mm1)|exact hK _ _ (hI.q mm2)|exact hK _ _ (hI.q mm3)|exact hK _ _ (hI.q mm4)|exact hK _ _ (hI.q mm5)|exact hK _ _ (hI.q mm6)|exact hK _ _ (hI.q mm7)|exact hK _ _ (hI.q mm8)|exact hK _ _ (hI.q mm9)|exact hK _ _ (hI.q zHa)|exact hK _ _ (hI.q zHH)|exact hK _ _ (hI.q zHT)|exact hK _ _ (hI.q zIh)|exact hK _ _ (hI.q zKJ)|exact hK _ _ (hI.q zJ3)|exact hK _ _ (hI.q zLe)|exact hK _ _ (hI.q zLf)|exact hK _ _ (hI.q zLg)|exact hK _ _ (hI.q zLh)|exact hK _ _ (hI.q zLi)|exact hK _ _ (hI.q zLj)|exact hK _ _ (hI.q zLk)|exact hK _ _ (hI.q zLl)|exact hK _ _ (hI.q zLm)|exact hK _ _ (hI.q zLn)|exact hK _ _ (hI.q zNI)|exact hK _ _ (hI.q zOF)|exact hK _ _ (hI.q zO0)|exact hK _ _ (hI.q zO1)|exact hK _ _ (hI.q mm30)|exact hK _ _ (hI.q mm31)|exact hK _ _ (hI.q mm32)|exact hK _ _ (hI.q mm33)|exact hK _ _ (hI.q mm34)|exact hK _ _ (hI.q mm35)|exact hK _ _ (hI.q mm36)|exact hK _ _ (hI.q mm37)|exact hK _ _ (hI.q mm38)|exact hK _ _ (hI.q mm39)|exact hK _ _ (hI.q mm40))):p:=h a
theorem xgt(a:q)(b:r)(h:q->r->p:=by(intro a b;go_simp;first|exact hK _ _ (hI.q mm0)|exact hK _ _ (hI.q mm1)|exact hK _ _ (hI.q mm2)|exact hK _ _ (hI.q mm3)|exact hK _ _ (hI.q mm4)|exact hK _ _ (hI.q mm5)|exact hK _ _ (hI.q mm6)|exact hK _ _ (hI.q mm7)|exact hK _ _ (hI.q mm8)|exact hK _ _ (hI.q mm9)|exact hK _ _ (hI.q zHa)|exact hK _ _ (hI.q zHH)|exact hK _ _ (hI.q zHT)|exact hK _ _ (hI.q zIh)|exact hK _ _ (hI.q zKJ)|exact hK _ _ (hI.q zJ3)|exact hK _ _ (hI.q zLe)|exact hK _ _ (hI.q zLf)|exact hK _ _ (hI.q zLg)|exact hK _ _ (hI.q zLh)|exact hK _ _ (hI.q zLi)|exact hK _ _ (hI.q zLj)|exact hK _ _ (hI.q zLk)|exact hK _ _ (hI.q zLl)|exact hK _ _ (hI.q zLm)|exact hK _ _ (hI.q zLn)|exact hK _ _ (hI.q zNI)|exact hK _ _ (hI.q zOF)|exact hK _ _ (hI.q zO0)|exact hK _ _ (hI.q zO1)|exact hK _ _ (hI.q mm30)|exact hK _ _ (hI.q mm31)|exact hK _ _ (hI.q mm32)|exact hK _ _ (hI.q mm33)|exact hK _ _ (hI.q mm34)|exact hK _ _ (hI.q mm35)|exact hK _ _ (hI.q mm36)|exact hK _ _ (hI.q mm37)|exact hK _ _ (hI.q mm38)|exact hK _ _ (hI.q mm39)|exact hK _ _ (hI.q mm40))):p:=h a b
theorem xgo(h:p:=by(rintro e wa ⟨v,rfl,hv,hba⟩;first|exact hK _ _ ((hI.world hba).n mm0 hv)|exact hK _ _ ((hI.world hba).n mm1 hv)|exact hK _ _ ((hI.world hba).n mm2 hv)|exact hK _ _ ((hI.world hba).n mm3 hv)|exact hK _ _ ((hI.world hba).n mm4 hv)|exact hK _ _ ((hI.world hba).n mm5 hv)|exact hK _ _ ((hI.world hba).n mm6 hv)|exact hK _ _ ((hI.world hba).n mm7 hv)|exact hK _ _ ((hI.world hba).n mm8 hv)|exact hK _ _ ((hI.world hba).n mm9 hv)|exact hK _ _ ((hI.world hba).n zHa hv)|exact hK _ _ ((hI.world hba).n zHH hv)|exact hK _ _ ((hI.world hba).n zHT hv)|exact hK _ _ ((hI.world hba).n zIh hv)|exact hK _ _ ((hI.world hba).n zKJ hv)|exact hK _ _ ((hI.world hba).n zJ3 hv)|exact hK _ _ ((hI.world hba).n zLe hv)|exact hK _ _ ((hI.world hba).n zLf hv)|exact hK _ _ ((hI.world hba).n zLg hv)|exact hK _ _ ((hI.world hba).n zLh hv)|exact hK _ _ ((hI.world hba).n zLi hv)|exact hK _ _ ((hI.world hba).n zLj hv)|exact hK _ _ ((hI.world hba).n zLk hv)|exact hK _ _ ((hI.world hba).n zLl hv)|exact hK _ _ ((hI.world hba).n zLm hv)|exact hK _ _ ((hI.world hba).n zLn hv)|exact hK _ _ ((hI.world hba).n zNI hv)|exact hK _ _ ((hI.world hba).n zOF hv)|exact hK _ _ ((hI.world hba).n zO0 hv)|exact hK _ _ ((hI.world hba).n zO1 hv)|exact hK _ _ ((hI.world hba).n mm30 hv)|exact hK _ _ ((hI.world hba).n mm31 hv)|exact hK _ _ ((hI.world hba).n mm32 hv)|exact hK _ _ ((hI.world hba).n mm33 hv)|exact hK _ _ ((hI.world hba).n mm34 hv)|exact hK _ _ ((hI.world hba).n mm35 hv)|exact hK _ _ ((hI.world hba).n mm36 hv)|exact hK _ _ ((hI.world hba).n mm37 hv)|exact hK _ _ ((hI.world hba).n mm38 hv)|exact hK _ _ ((hI.world hba).n mm39 hv)|exact hK _ _ ((hI.world hba).n mm40 hv))):p:=h
theorem xgp(h:p:=by simp[Region.wanted,yielded,zg]):p:=h
theorem xgq(zg:q)(h:q->p:=by(intro zg;simp[Region.wanted,yielded,zg])):p:=h zg
theorem xgE(h:p:=by(try have z0:=hI.e mm0 (hd 0);try have z1:=hI.e mm1 (hd 1);try have z2:=hI.e mm2 (hd 2);try have z3:=hI.e mm3 (hd 3);try have z4:=hI.e mm4 (hd 4);try have z5:=hI.e mm5 (hd 5);try have z6:=hI.e mm6 (hd 6);try have z7:=hI.e mm7 (hd 7);try have z8:=hI.e mm8 (hd 8);try have z9:=hI.e mm9 (hd 9);try have z10:=hI.e zHa (hd 10);try have z11:=hI.e zHH (hd 11);try have z12:=hI.e zHT (hd 12);try have z13:=hI.e zIh (hd 13);try have z14:=hI.e zKJ (hd 14);try have z15:=hI.e zJ3 (hd 15);try have z16:=hI.e zLe (hd 16);try have z17:=hI.e zLf (hd 17);try have z18:=hI.e zLg (hd 18);try have z19:=hI.e zLh (hd 19);try have z20:=hI.e zLi (hd 20);try have z21:=hI.e zLj (hd 21);try have z22:=hI.e zLk (hd 22);try have z23:=hI.e zLl (hd 23);try have z24:=hI.e zLm (hd 24);try have z25:=hI.e zLn (hd 25);try have z26:=hI.e zNI (hd 26);try have z27:=hI.e zOF (hd 27);try have z28:=hI.e zO0 (hd 28);try have z29:=hI.e zO1 (hd 29);try have z30:=hI.e mm30 (hd 30);try have z31:=hI.e mm31 (hd 31);try have z32:=hI.e mm32 (hd 32);try have z33:=hI.e mm33 (hd 33);try have z34:=hI.e mm34 (hd 34);try have z35:=hI.e mm35 (hd 35);try have z36:=hI.e mm36 (hd 36);try have z37:=hI.e mm37 (hd 37);try have z38:=hI.e mm38 (hd 38);try have z39:=hI.e mm39 (hd 39);try have z40:=hI.e mm40 (hd 40);try have y0:=hI.k 0 rfl kR;try have y1:=hI.k 1 rfl kR;try have y2:=hI.k 2 rfl kR;try have y3:=hI.k 3 rfl kR;try have y4:=hI.k 4 rfl kR;try have y5:=hI.k 5 rfl kR;try have y6:=hI.k 6 rfl kR;try have y7:=hI.k 7 rfl kR;try have y8:=hI.k 8 rfl kR;try have y9:=hI.k 9 rfl kR;try have y10:=hI.k 10 rfl kR;try have y11:=hI.k 11 rfl kR;try have y12:=hI.k 12 rfl kR;try have y13:=hI.k 13 rfl kR;try have y14:=hI.k 14 rfl kR;try have y15:=hI.k 15 rfl kR;try have y16:=hI.k 16 rfl kR;try have y17:=hI.k 17 rfl kR;try have y18:=hI.k 18 rfl kR;try have y19:=hI.k 19 rfl kR;try have y20:=hI.k 20 rfl kR;try have y21:=hI.k 21 rfl kR;try have y22:=hI.k 22 rfl kR;try have y23:=hI.k 23 rfl kR;try have y24:=hI.k 24 rfl kR;try have y25:=hI.k 25 rfl kR;go_simp;first|exact hK _ _ (hI.q mm0)|exact hK _ _ (hI.q mm1)|exact hK _ _ (hI.q mm2)|exact hK _ _ (hI.q mm3)|exact hK _ _ (hI.q mm4)|exact hK _ _ (hI.q mm5)|exact hK _ _ (hI.q mm6)|exact hK _ _ (hI.q mm7)|exact hK _ _ (hI.q mm8)|exact hK _ _ (hI.q mm9)|exact hK _ _ (hI.q zHa)|exact hK _ _ (hI.q zHH)|exact hK _ _ (hI.q zHT)|exact hK _ _ (hI.q zIh)|exact hK _ _ (hI.q zKJ)|exact hK _ _ (hI.q zJ3)|exact hK _ _ (hI.q zLe)|exact hK _ _ (hI.q zLf)|exact hK _ _ (hI.q zLg)|exact hK _ _ (hI.q zLh)|exact hK _ _ (hI.q zLi)|exact hK _ _ (hI.q zLj)|exact hK _ _ (hI.q zLk)|exact hK _ _ (hI.q zLl)|exact hK _ _ (hI.q zLm)|exact hK _ _ (hI.q zLn)|exact hK _ _ (hI.q zNI)|exact hK _ _ (hI.q zOF)|exact hK _ _ (hI.q zO0)|exact hK _ _ (hI.q zO1)|exact hK _ _ (hI.q mm30)|exact hK _ _ (hI.q mm31)|exact hK _ _ (hI.q mm32)|exact hK _ _ (hI.q mm33)|exact hK _ _ (hI.q mm34)|exact hK _ _ (hI.q mm35)|exact hK _ _ (hI.q mm36)|exact hK _ _ (hI.q mm37)|exact hK _ _ (hI.q mm38)|exact hK _ _ (hI.q mm39)|exact hK _ _ (hI.q mm40))):p:=h
theorem xgz{t:Prop}(b:q)(a:r/\s/\u/\t)(h:q->r->s->u->p:=by(intro b a z3 z4;go_simp;first|exact hK _ _ (hI.q mm0)|exact hK _ _ (hI.q mm1)|exact hK _ _ (hI.q mm2)|exact hK _ _ (hI.q mm3)|exact hK _ _ (hI.q mm4)|exact hK _ _ (hI.q mm5)|exact hK _ _ (hI.q mm6)|exact hK _ _ (hI.q mm7)|exact hK _ _ (hI.q mm8)|exact hK _ _ (hI.q mm9)|exact hK _ _ (hI.q zHa)|exact hK _ _ (hI.q zHH)|exact hK _ _ (hI.q zHT)|exact hK _ _ (hI.q zIh)|exact hK _ _ (hI.q zKJ)|exact hK _ _ (hI.q zJ3)|exact hK _ _ (hI.q zLe)|exact hK _ _ (hI.q zLf)|exact hK _ _ (hI.q zLg)|exact hK _ _ (hI.q zLh)|exact hK _ _ (hI.q zLi)|exact hK _ _ (hI.q zLj)|exact hK _ _ (hI.q zLk)|exact hK _ _ (hI.q zLl)|exact hK _ _ (hI.q zLm)|exact hK _ _ (hI.q zLn)|exact hK _ _ (hI.q zNI)|exact hK _ _ (hI.q zOF)|exact hK _ _ (hI.q zO0)|exact hK _ _ (hI.q zO1)|exact hK _ _ (hI.q mm30)|exact hK _ _ (hI.q mm31)|exact hK _ _ (hI.q mm32)|exact hK _ _ (hI.q mm33)|exact hK _ _ (hI.q mm34)|exact hK _ _ (hI.q mm35)|exact hK _ _ (hI.q mm36)|exact hK _ _ (hI.q mm37)|exact hK _ _ (hI.q mm38)|exact hK _ _ (hI.q mm39)|exact hK _ _ (hI.q mm40))):p:=h b a.1 a.2.1 a.2.2.1
theorem xgx(a:q)(b:r)(c:s)(h:q->r->s->p:=by(intro a b c;go_simp;first|exact hK _ _ (hI.q mm0)|exact hK _ _ (hI.q mm1)|exact hK _ _ (hI.q mm2)|exact hK _ _ (hI.q mm3)|exact hK _ _ (hI.q mm4)|exact hK _ _ (hI.q mm5)|exact hK _ _ (hI.q mm6)|exact hK _ _ (hI.q mm7)|exact hK _ _ (hI.q mm8)|exact hK _ _ (hI.q mm9)|exact hK _ _ (hI.q zHa)|exact hK _ _ (hI.q zHH)|exact hK _ _ (hI.q zHT)|exact hK _ _ (hI.q zIh)|exact hK _ _ (hI.q zKJ)|exact hK _ _ (hI.q zJ3)|exact hK _ _ (hI.q zLe)|exact hK _ _ (hI.q zLf)|exact hK _ _ (hI.q zLg)|exact hK _ _ (hI.q zLh)|exact hK _ _ (hI.q zLi)|exact hK _ _ (hI.q zLj)|exact hK _ _ (hI.q zLk)|exact hK _ _ (hI.q zLl)|exact hK _ _ (hI.q zLm)|exact hK _ _ (hI.q zLn)|exact hK _ _ (hI.q zNI)|exact hK _ _ (hI.q zOF)|exact hK _ _ (hI.q zO0)|exact hK _ _ (hI.q zO1)|exact hK _ _ (hI.q mm30)|exact hK _ _ (hI.q mm31)|exact hK _ _ (hI.q mm32)|exact hK _ _ (hI.q mm33)|exact hK _ _ (hI.q mm34)|exact hK _ _ (hI.q mm35)|exact hK _ _ (hI.q mm36)|exact hK _ _ (hI.q mm37)|exact hK _ _ (hI.q mm38)|exact hK _ _ (hI.q mm39)|exact hK _ _ (hI.q mm40))):p:=h a b c
theorem xgy(a:q)(b:r)(c:s)(d:u)(h:q->r->s->u->p:=by(intro a b c d;go_simp;first|exact hK _ _ (hI.q mm0)|exact hK _ _ (hI.q mm1)|exact hK _ _ (hI.q mm2)|exact hK _ _ (hI.q mm3)|exact hK _ _ (hI.q mm4)|exact hK _ _ (hI.q mm5)|exact hK _ _ (hI.q mm6)|exact hK _ _ (hI.q mm7)|exact hK _ _ (hI.q mm8)|exact hK _ _ (hI.q mm9)|exact hK _ _ (hI.q zHa)|exact hK _ _ (hI.q zHH)|exact hK _ _ (hI.q zHT)|exact hK _ _ (hI.q zIh)|exact hK _ _ (hI.q zKJ)|exact hK _ _ (hI.q zJ3)|exact hK _ _ (hI.q zLe)|exact hK _ _ (hI.q zLf)|exact hK _ _ (hI.q zLg)|exact hK _ _ (hI.q zLh)|exact hK _ _ (hI.q zLi)|exact hK _ _ (hI.q zLj)|exact hK _ _ (hI.q zLk)|exact hK _ _ (hI.q zLl)|exact hK _ _ (hI.q zLm)|exact hK _ _ (hI.q zLn)|exact hK _ _ (hI.q zNI)|exact hK _ _ (hI.q zOF)|exact hK _ _ (hI.q zO0)|exact hK _ _ (hI.q zO1)|exact hK _ _ (hI.q mm30)|exact hK _ _ (hI.q mm31)|exact hK _ _ (hI.q mm32)|exact hK _ _ (hI.q mm33)|exact hK _ _ (hI.q mm34)|exact hK _ _ (hI.q mm35)|exact hK _ _ (hI.q mm36)|exact hK _ _ (hI.q mm37)|exact hK _ _ (hI.q mm38)|exact hK _ _ (hI.q mm39)|exact hK _ _ (hI.q mm40))):p:=h a b c d
theorem zHR.uniq{v:Value}{z l:Int}(h:zHR w v z)(q:zHR w v l):z=l:=by
 obtain⟨neg,B,n,E,f,rfl,r,-,-,s,-,rfl⟩:=h;obtain⟨H,C,G,F,g,d,y,-,-,A,-,rfl⟩:=q;injection d with d
 simp only[Array.mk.injEq,List.cons.injEq,Value.bool.injEq,Value.slice.injEq]at d;obtain⟨rfl,⟨rfl,e,-⟩,-⟩:=d;have x:f.length=g.length:=by rw[r,y];exact e
 have:f=g:=by
  refine qI x fun k i j=>?_
  obtain⟨b,I,m,-,t⟩:=s.cell i;obtain⟨D,J,c,-,a⟩:=A.cell j;rw[m]at c;injection c with c
  injection c with o p
  subst o;subst p;rw[t]at a;injection a with a
  injection a with _ a
  have u:f.getD k 0=g.getD k 0:=by omega
  simpa[xgb,i,j]using u
 rw[this]
theorem zJp:∃f:World->Nat->Int,∀(w:World) (b:Nat) (x y:Value) (z:Int),Blk w b 51 #[x,y]->yA w (.agg #[x,y]) z->f w b=z:=by
 refine⟨fun w b=>Classical.epsilon fun z=>∃x y,Blk w b 51 #[x,y]/\yA w (.agg #[x,y]) z,fun w b x y z c d=>?_⟩;have e:=Classical.epsilon_spec (p:=fun z=>∃x y,Blk w b 51 #[x,y]/\yA w (.agg #[x,y]) z) ⟨z,x,y,c,d⟩;obtain⟨h,i,a,g⟩:=e;unfold Blk at c a;rw[c]at a;injection a with a
 injection a with a
 simp only[Array.mk.injEq,List.cons.injEq]at a;obtain⟨rfl,rfl,-⟩:=a;exact g.J.uniq d.J
end Go.Proofs.YtniiekppgdkknaaGreat
