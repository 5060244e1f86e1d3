/- Joined. -/
import Derived.Test.YtkidaebmhlijlaaGreatE33
set_option linter.unusedVariables false
set_option linter.unusedSimpArgs false
set_option linter.unusedSectionVars false
set_option maxHeartbeats 16000000
set_option maxRecDepth 100000
variable{z:Int}{ts:List Int}{C i:Nat}
namespace Go.Proofs.YtkidaebmhlijlaaGreat
open Go.RowKit
theorem zKM(a b:Value)(z:Int)(w:World)(h1:jE w a z)(h2:jE w b z):CPq 29 #[a,b] w fun e w'=>∃v,e= .returned v/\v= .bool true/\BWq w w':=
 (zIS a b z z w h1 h2).mono fun e w' h=>⟨_,h.1,by simp,h.2⟩
theorem MX.gd{e:Nat}{L:(Nat->Int)->Prop}{w:World}{v:Value}(h:MX C e L w v)(c:C<=3):Gd C (4*e+17) L:=by
 obtain⟨R,M,-,-,d,a,b⟩:=h;exact(zOr oM oM a).of b
theorem zWx{n:Nat}{F:Nat->Int}(h:∀a b,a<b->b<n->F a∣F b):(zOF n F).Pairwise (· ∣ ·):=by
 unfold zOF yV;exact List.Pairwise.filter _ (List.pairwise_map.2 (List.Pairwise.imp_of_mem (fun {a b} _ d c=>h a b c (yP.1 d)) List.pairwise_lt_range))
def zKp(ts:List Int)(i:Nat):Int:=(1::ts).getD i 0
structure qA1(ts:List Int):Prop where
 ge:∀(i:Nat) (z:Int),ts[i]?=some z->2<=z
 dvd:∀(i:Nat) (z:Int),ts[i]?=some z->zKp ts i∣z
 pos:∀i,i<=ts.length->0<zKp ts i
 one:∀(i:Nat) (z:Int),ts[i]?=some z->Smd z
 last:∀i,i<=ts.length->Smd (zKp ts i)
 part:∀i,Smd (zEo (ts.take i))
theorem zLI(h:ts[i]?=some z):zKp ts (i+1)=z:=by
 unfold zKp;rw[xgb,List.getElem?_cons_succ,h];rfl
theorem zLc(h:ts[i]?=some z):zEo (ts.take (i+1))=zEo (ts.take i)*z:=by
 rw[jH,h,zGG];show _*(z*1)=_;rw[zAl]
theorem zNl(h:∀z∈ts,2<=z):0<zEo ts:=by
 induction ts with
 |nil=>exact Int.one_pos
 |cons z c b=>exact Int.mul_pos (by have:=h z sI;omega) (b fun y a=>h y (by simp[a]))
theorem zYg(h1:∀z∈ts,2<=z)(h2:ts.Pairwise (· ∣ ·))(f:(zEo ts).natAbs<=24*SW^4):qA1 ts:=by
 have g:(1::ts).Pairwise (· ∣ ·):=List.pairwise_cons.2 ⟨fun z _=>Int.one_dvd z,h2⟩;have b:∀i,(zEo (ts.take i)).natAbs<=24*SW^4:=fun i=>by
  refine zD (zCA ?_ (Int.natAbs_dvd_natAbs.2 ⟨zEo (ts.drop i),?_⟩)) f;have:=zNl h1;omega;rw[<-zGG,List.take_append_drop]
 have c:∀(i:Nat) (z:Int),ts[i]?=some z->z.natAbs<=24*SW^4:=fun i z k=>by
  refine zD (zCA ?_ (Int.natAbs_dvd_natAbs.2 ⟨zEo (ts.take i),?_⟩)) (b (i+1));have:=zNl (ts:=ts.take (i+1)) fun y j=>h1 y (zCj j);omega
  rw[zLc k,zZ]
 have d:∀i,i<=ts.length->0<zKp ts i/\(zKp ts i).natAbs<=24*SW^4:=fun i a=>by
  cases i with
  |zero=>exact⟨Int.one_pos,by have:=b 0;exact this⟩
  |succ i=>
   have e:=xga (show i<ts.length by omega);rw[zLI e];exact⟨by have:=h1 _ (xgd e);omega,c _ _ e⟩
 refine⟨fun i z h=>h1 z (xgd h),fun i z h=>?_,fun i a=>(d i a).1,fun i z h=>zJc (c i z h),fun i a=>zJc (d i a).2,fun i=>zJc (b i)⟩;obtain⟨a,e⟩:=xge.1 h;have:=(List.pairwise_iff_getElem.1 g) i (i+1) (by simp;omega) (by simp;omega) oM;unfold zKp;rw[xgb,xga (by simp;omega)];simpa[e]using this
theorem zUN{f m k:Nat}{j d:(Nat->Int)->Prop}{b:Int}{P Q:Nat->Nat->Int}(h:zSX C j d b ts)(h1:HB C m P j)(h2:HB C k Q d)(E:C<=3)(t:Bd C f d)(v:f<=117):
  b=(m:Int)-k/\qA1 ts/\(m=k->∀z,zHT C j d z->zEo ts=z):=by
 obtain⟨p,o,r,B,D,K,F,e,g,hK,hI,rfl,rfl⟩:=h;obtain⟨rfl,-⟩:=e.eq h1 fun x=>yF
 obtain⟨rfl,-⟩:=g.eq h2 fun x=>yF
 obtain⟨c,u⟩:=e.hnf;have A:p<=4:=by have:=e.le_cols;omega
 have y:o<=4:=by have:=g.le_cols;omega
 have q:leM SW o p K:=(zJj u A (t _ _ g) hK).mono (zPk v);have n:zEo (zOF r fun i=>F i i)=jB r fun i=>F i i:=zUG fun i w=>hI.dg.pos i w
 refine⟨rfl,zYg (fun z l=>zWw l) (zWx fun a b s G=>hI.chn a b (zH _) s (by have:=hI.dg.le;omega)) (by rw[n];exact hI.small y zF5 q),?_⟩;rintro rfl z l;rw[n];exact(zXP e g hK hI).uniq l
end Go.Proofs.YtkidaebmhlijlaaGreat
