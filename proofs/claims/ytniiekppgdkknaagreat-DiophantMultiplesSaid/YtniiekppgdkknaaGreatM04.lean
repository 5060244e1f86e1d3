/- Joined. -/
import Derived.Test.YtniiekppgdkknaaGreatM01
set_option linter.unusedVariables false
set_option linter.unusedSimpArgs false
set_option linter.unusedSectionVars false
set_option maxHeartbeats 16000000
set_option maxRecDepth 100000
variable{ms us vs xs:List Nat}{c e k n off q r v x:Nat}
namespace Go.Proofs.YtniiekppgdkknaaGreat
def seg(us:List Nat)(off k:Nat):List Nat:=(us.drop off).take k
theorem zJK(h:off+k<=us.length):(seg us off k).length=k:=by unfold seg;simp;omega
theorem zSj(h:off+k<us.length):seg us off (k+1)=seg us off k++ [us.getD (off+k) 0]:=by
 unfold seg;rw[zD4 _ _ (by simp;omega)];simp[xgb,List.getElem?_drop]
theorem zHI(h:off+k<us.length):nat (seg us off (k+1))=nat (seg us off k)+us.getD (off+k) 0*B32^k:=by
 rw[zSj h,zDZ,zJK (by omega),zP]
theorem zAV.drop(h:zAV xs)(k:Nat):zAV (xs.drop k):=fun x a=>h x (List.mem_of_mem_drop a)
theorem zAV.seg(h:zAV xs)(off k:Nat):zAV (seg xs off k):=(h.drop off).take k
def put(us:List Nat)(off:Nat)(ms:List Nat):List Nat:=us.take off++ms++us.drop (off+ms.length)
theorem zEI(h:off+ms.length<=us.length):(put us off ms).length=us.length:=by unfold put;simp;omega
theorem zUh(us:List Nat)(off:Nat):put us off []=us:=by unfold put;simp
theorem zQQ(h:off+ms.length<us.length):(put us off ms).set (off+ms.length) v=put us off (ms++ [v]):=by
 unfold put;have a:(us.take off++ms).length=off+ms.length:=by simp;omega
 rw[zAk _ _ (by rw[a];omega),a,zAu,yX h];simp[Nat.add_assoc]
theorem zNW(h:off+ms.length<=us.length)(b:ms.length<=k):(put us off ms).getD (off+k) 0=us.getD (off+k) 0:=by
 unfold put;have a:(us.take off++ms).length=off+ms.length:=by simp;omega
 simp only[xgb];rw[List.getElem?_append_right (by rw[a];omega),a,List.getElem?_drop];congr 2;omega
theorem zMW(h:off+ms.length<=us.length)(b:k<ms.length):(put us off ms).getD (off+k) 0=ms.getD k 0:=by
 unfold put;have a:(us.take off).length=off:=by simp;omega
 simp only[xgb];rw[List.getElem?_append_left (by simp;omega),List.getElem?_append_right (by rw[a];omega),a];congr 2;omega
theorem zQP(h:zAV us)(a:zAV ms):zAV (put us off ms):=((h.take off).append a).append (h.drop _)
theorem zOM(h:off+ms.length<=us.length)(b:k<ms.length):(put us off ms).set (off+k) v=put us off (ms.set k v):=by
 unfold put;have a:(us.take off).length=off:=by simp;omega
 rw[List.set_append_left _ _ (by simp;omega),zAk _ _ (by rw[a];omega),a,Nat.add_sub_cancel_left];simp
theorem zSG(hv:zAV vs)(c:vs.length=n+2):
  ∃l,l<B32^n/\nat vs=(vs.getD (n+1) 0*B32+vs.getD n 0)*B32^n+l:=by
 refine⟨nat (vs.take n),?_,?_⟩;have:=zCY (hv.take n);rwa[qM,zAt (by omega)]at this;have a:=yC vs (n+1);have b:=yC vs n;rw[qN vs (by omega),b,qE]at a;rw[a,zS,zN,zP B32 (B32^n)];omega
theorem zSH(hv:zAV us)(d:us.length=n+3):
  ∃l,l<B32^n/\nat us=((us.getD (n+2) 0*B32+us.getD (n+1) 0)*B32+us.getD n 0)*B32^n+l:=by
 refine⟨nat (us.take n),?_,?_⟩;have:=zCY (hv.take n);rwa[qM,zAt (by omega)]at this;have a:=yC us (n+2);have b:=yC us (n+1);have c:=yC us n;rw[qN us (by omega),b,c]at a;rw[a,show B32^(n+2)=B32*(B32*B32^n) by rw[qE,qE,zP,zP (B32^n)],show B32^(n+1)=B32*B32^n by rw[qE,zP]];generalize B32^n=P;simp only[Nat.add_mul,Nat.mul_assoc];omega
theorem zUT(t B p:Nat):t*(B*p)=t*p*B:=by rw[zP B p,<-zN]
section
variable {U V Q h v2 u2 top p Ul Vl:Nat} (hU:U=(top*4294967296+u2)*p+Ul) (hV:V=(h*4294967296+v2)*p+Vl) (hp:0<p) (hUl:Ul<p) (hVl:Vl<p)
 (hu2:u2<4294967296) (hv2:v2<4294967296) (hh:2147483648<=h) (hh2:h<4294967296) (hQ:Q*V<=U) (hQB:Q<4294967296) (hUV:U<V*4294967296)
include hU hV hp hUl hVl hu2 hv2 hh hh2 hQ hQB hUV
omit hUl hu2 hh hh2 hQ hQB hUV in
theorem zWY(c:q*h+r=top)(e:r*4294967296+u2<q*v2)(d:Ul<p):U<q*V:=by
 have a:top*4294967296+u2+1<=q*(h*4294967296+v2):=by
  rw[<-c,jT,zS,zN];omega
 have b:=zK p a;rw[hU,hV,jT,<-zN];rw[zS _ 1 p]at b;omega
theorem zVg(a:q*h+r=top)(c:Q<=q)(hb:q>4294967295∨r*4294967296+u2<q*v2):Q<=q-1:=by
 rcases hb with hb|hb
 omega;have b:=zWY hU hV hp hVl hv2 a hb hUl;rcases zJ Q q with h2|h2
 omega;have:=zK V h2;omega
theorem zUI:Q<=top/h:=by
 rw[Nat.le_div_iff_mul_le (by omega)];rcases zJ top (Q*h)with a|a
 .exfalso
  have b:(top+1)*(4294967296*p)<=Q*h*(4294967296*p):=zK _ a;have c:Q*h*(4294967296*p)<=Q*V:=by
   rw[hV,zN];refine qA _ ?_;rw[zS,<-zN];omega
  have d:U<(top+1)*(4294967296*p):=by
   rw[hU,zS,zS,<-zN];have:(u2+1)*p<=4294967296*p:=zK _ hu2;rw[zS]at this;omega
  omega
 exact a
theorem zTN:top<(h+1)*4294967296:=by
 rcases zJ top ((h+1)*4294967296)with h1|h1
 exact h1;exfalso;have b:V<(h+1)*4294967296*p:=by
  rw[hV];have:(h*4294967296+v2+1)*p<=(h+1)*4294967296*p:=zK _ (by omega);rw[zS _ 1]at this;omega
 have a:=zK (4294967296*p) h1;have c:top*(4294967296*p)<=U:=by rw[hU,zS,<-zN,Nat.add_assoc];exact Nat.le_add_right _ _
 rw[zUT]at a;have d:=zK 4294967296 (zAc b);exact absurd (zI hUV (zF d (zF a c))) (Nat.lt_irrefl _)
theorem zR2:top/h<=4294967297:=by
 have a:=zTN hU hV hp hUl hVl hu2 hv2 hh hh2 hQ hQB hUV;have:top/h<4294967298:=by
  rw[zA7 (by omega)];omega
 omega
theorem zWZ(b:q*h+r=top)(g:q<4294967296)(f:q*v2<=r*4294967296+u2):q<=Q+1∨q*V<U+V:=by
 right;have a:q*(h*4294967296+v2)<=top*4294967296+u2:=by
  rw[<-b,jT,zS,zN];omega
 have c:=zK p a;rw[hV,jT,<-zN,hU];have d:q*Vl<=4294967295*p:=qP (by omega) (by omega);have e:4294967296*p<=h*4294967296*p:=zK _ (by omega);rw[zS (h*4294967296)];omega
theorem zUJ(c:q*h+r=top)(d:4294967295<r):q<4294967296/\q*v2<=r*4294967296+u2:=by
 have b:=zTN hU hV hp hUl hVl hu2 hv2 hh hh2 hQ hQB hUV;have a:q<4294967296:=by
  rcases zJ q 4294967296 with h3|h3
  exact h3;have:=zK h h3;omega
 refine⟨a,?_⟩;have h3:q*v2<=4294967296*4294967296:=qP (by omega) (by omega);omega
end
theorem zP8{b x e v b' c':Nat}(h:nat ms+q*nat (vs.take ms.length)=nat (seg us off ms.length)+(b+c)*B32^ms.length)(f:off+ms.length<us.length)
  (g:us.getD (off+ms.length) 0=x) (d:vs.getD ms.length 0=e) (hv:v+(c+q*e)+b=x+(b'+c')*4294967296):
  nat (ms++ [v])+q*nat (vs.take (ms.length+1))=nat (seg us off (ms.length+1))+(b'+c')*B32^(ms.length+1):=by
 rw[zDZ,zHI f,yC,g,d,qE,zBV,jT,<-zN q];rw[zBV]at h;generalize 4294967296^ms.length=p at*;have i:(v+(c+q*e)+b)*p=(x+(b'+c')*4294967296)*p:=by rw[hv]
 have a:(b'+c')*(p*4294967296)=(b'+c')*4294967296*p:=by rw[zN,zP p]
 rw[a,zP p v];simp only[Nat.add_mul]at*;omega
theorem zKS{rr:List Nat}(h:nat rr+c*B32^rr.length=nat (ms.take rr.length)+nat (vs.take rr.length))(f:ms.getD rr.length 0=x)(d:vs.getD rr.length 0=e):
  nat (rr++ [(c+(x+e))%4294967296])+(c+(x+e))/4294967296*B32^(rr.length+1)=nat (ms.take (rr.length+1))+nat (vs.take (rr.length+1)):=by
 rw[zDZ,yC,yC,f,d,qE,zBV];rw[zBV]at h;generalize 4294967296^rr.length=p at*;have a:=jP (c+(x+e)) 4294967296;generalize (c+(x+e))/4294967296=q at*;generalize g:(c+(x+e))%4294967296=r at*;have b:(4294967296*q+r)*p=(c+(x+e))*p:=by rw[a]
 rw[zS,zP 4294967296 q,zN,zP 4294967296 p,zS,zS]at b;rw[zP p r];omega
end Go.Proofs.YtniiekppgdkknaaGreat
