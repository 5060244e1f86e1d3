/- Joined. -/
import Derived.Test.YtniiekppgdkknaaGreatM22
import Derived.Test.YtniiekppgdkknaaGreatM24
set_option linter.unusedVariables false
set_option linter.unusedSimpArgs false
set_option linter.unusedSectionVars false
set_option maxHeartbeats 16000000
set_option maxRecDepth 100000
namespace Go.Proofs.YtniiekppgdkknaaGreat
open Go.RowKit
structure zWo(C:Nat)(F:Nat->Nat->Int)(i:Nat)(last:Int):Prop where
 ok:∀k,k<i->zQg C F k
 lst:∀c:Nat,c<C->(last<c↔∀k,k<i->0<=lead C F k/\lead C F k<c)
structure zXE(w:World)(f:Value)(hr hc:Int)(H:List (List Int))(ur uc:Int)(U:List (List Int))(vr vc:Int)(V:List (List Int)):Prop where
 ex:∃h u v,f= .agg #[niq hr,niq hc,h,niq ur,niq uc,u,niq vr,niq vc,v]/\zBl w h H/\zBl w u U/\zBl w v V
structure zXA(R C:Nat)(A:List (List Int))(hr hc:Int)(H:List (List Int))(ur uc:Int)(U:List (List Int))(vr vc:Int)(V:List (List Int)):Prop where
 is:zWI hr hc H
 er:hr=R
 ec:hc=C
 u:ur=R/\uc=R/\zAq ur uc U
 v:vr=R/\vc=R/\zAq vr vc V
 mul:yV R C (zGK U A R)=H
 inv:yV R R (zGK U V R)=yV R R idf
theorem zOQ(c d:Value)(R m C:Nat)(a b:List (List Int))(w:World)(f:zAo w c R m a)(g:zAo w d m C b)(j:zBe R m a)(k:zBe m C b)(l:R<=1000000)(p:m<=1000000)(i:C<=1000000)(n:zGg a b R m C):
  CPq 126 #[c,d] w fun e w'=>∃v,e= .returned v/\zAo w' v R C (yV R C (zGK a b m))/\BWq w w':=by
 refine(zKA c d R m C a b w f g j k l p i n).mono ?_;rintro e w' ⟨v,q,rfl,h,o⟩;exact⟨_,rfl,h.mat.1,o⟩
def zXr(n:Nat)(F:Nat->Nat->Int)(j:Nat):Int:=yZ j fun t=>sg1 t*(F 0 t*det n (mnr F 0 t))
def zVH(m C:Nat)(A:Nat->Nat->Int)(x:Nat->Int):Prop:=∃y:Nat->Int,∀b,b<C->x b=yZ m fun a=>y a*A a b
def zXg(R C:Nat)(A:Nat->Nat->Int)(x:Nat->Int):Prop:=∀b,b<C->(yZ R fun a=>x a*A a b)=0
def zXL(R C:Nat)(A:Nat->Nat->Int)(x:Nat->Int):Prop:=∀y:Nat->Int,(∀a,a<R->(yZ C fun b=>A a b*y b)=0)->(yZ C fun b=>x b*y b)=0
structure HB(C m:Nat)(G:Nat->Nat->Int)(L:(Nat->Int)->Prop):Prop where
 hnf:∃c,Hnf C m m c G
 iff:∀x,L x↔zVH m C G x
def zXs(m:Nat)(G:Nat->Nat->Int):Nat->Nat->Int:=fun a b=>if a<m then G a b else 0
def zXq(r:Nat)(U:Nat->Nat->Int):Nat->Nat->Int:=fun a b=>U (r+a) b
def zXI(k R C:Nat)(A:Nat->Nat->Int):Prop:=∃σ τ:Nat->Nat,(∀a,a<k->σ a<R)/\(∀a,a<k->τ a<C)/\det k (fun a b=>A (σ a) (τ b))≠0
structure zXj(R C:Nat)(A:Nat->Nat->Int):Prop where
 sat:∀x,zXL R C A x->zVH R C A x
 full:zXI R R C A
theorem zQB(v:Value)(zs:List Int)(w:World)(h:zAR w v zs):
  CPq 38 #[v] w fun e w'=>e= .returned (.bool (decide (∀z∈zs,z=0)))/\BWq w w':=by
 obtain⟨O,n,P,rfl,u,Q,R,-⟩:=id h;have p:=xgw u;clear u;obtain⟨t,g⟩:∃t,decide (∀z∈zs,z=0)=t:=⟨_,rfl⟩;rw[g];have o:=xgw g;clear g;go_enter Tryz.func38,Tryz.ntmps38;go_wp2;go_loopw [7] (fun m wr=>∃k:Nat,k<=n/\m=niq k/\BWq w wr/\Hid (∀z∈zs.take k,z=0)) (fun m _=>n-(intOf m).toNat)
 case atStart=>exact⟨0,oM,rfl,zB _ _,xgw sI⟩
 obtain⟨k,T,rfl,i,C⟩:=hrel;by_cases J:k<n
 .obtain⟨b,z,s,a,l,c,rfl,S,D,M,N,L⟩:=(h.I i).cell (k:=k) (by rw[p.out];exact J)
  have r:=xgw D;clear D;go_upto_region 4 with(fail)
  refine zE ?_;intro F A;obtain⟨x,E,U⟩:=qL A;have G:=E.two;clear M N A;go_wp2_with fail
  refine(zAn _ z F (L.ext (lx x)).J).mono ?_;rintro e V ⟨rfl,H⟩;have B:=nx (nx i x) H;clear G;by_cases f:z=0
  .have j:(zAB z 0 !=0)=false:=by rw[f];decide
   obtain⟨q,d⟩:∃q,zAB z 0=q:=⟨_,rfl⟩;rw[d]at j ⊢
   clear d;go_wp2;go_roundw
   case rel=>
    refine⟨k+1,oM,by simp,B,xgw ?_⟩;rw[zAK,r.out];intro y K;rcases List.mem_append.1 K with h1|h1
    exact C.out y h1;simp at h1;rw[h1,f]
   case measure=>exact meq
  have j:(zAB z 0 !=0)=true:=by
   rw[bne_iff_ne];unfold zAB;split<;>(try split)<;>omega
  obtain⟨q,d⟩:∃q,zAB z 0=q:=⟨_,rfl⟩;rw[d]at j ⊢
  clear d;go_wp2;go_ret;refine⟨?_,B⟩;rw[<-o.out,zR (fun I=>f (I z (xgd r.out)))];rfl
 obtain rfl:k=n:=oM;go_wp2;go_ret;refine⟨?_,i⟩;have:=C.out;rw[<-p.out,zAG]at this;rw[<-o.out,zT this];rfl
def upR(F G:Nat->Nat->Int)(i c:Nat):Nat->Nat->Int:=fun a b=>if a=i/\b<c then G a b else F a b
def upC(F G:Nat->Nat->Int)(j r:Nat):Nat->Nat->Int:=fun a b=>if b=j/\a<r then G a b else F a b
def zXt(F:Nat->Nat->Int)(i c:Nat)(z:Int):Nat->Nat->Int:=fun a b=>if a=i/\b=c then z else F a b
section
variable {w:World} {A:Value} {g n cap R C:Nat} {bs:List Nat} {F:Nat->Nat->Int}
end
section
variable {w w':World} {bw:Nat} {AM AU AV:Value} {R C:Nat} {bm bu bv:List Nat} {S T V:Nat->Nat->Int}
def Z3(AM AU AV:Value)(bm bu bv:List Nat)(b:Nat):Prop:=Zn AM bm b∨Zn AU bu b∨Zn AV bv b
end
structure zVJ(n0 R C:Nat)(S T V:Nat->Nat->Int)(w:World)(v:Value):Prop where
 ex:∃so sc uo uc vo vc bs bu bv,v= .agg #[niq R,niq C,.slice so R sc,niq R,niq R,.slice uo R uc,niq R,niq R,.slice vo R vc]∧
  Wri w (.slice so R sc) R C bs S/\Wri w (.slice uo R uc) R R bu T/\Wri w (.slice vo R vc) R R bv V/\(∀b,Z3 (.slice so R sc) (.slice uo R uc) (.slice vo R vc) bs bu bv b->n0<=b)∧
  Ap (.slice so R sc) bs (.slice uo R uc) bu/\Ap (.slice so R sc) bs (.slice vo R vc) bv/\Ap (.slice uo R uc) bu (.slice vo R vc) bv

end Go.Proofs.YtniiekppgdkknaaGreat
