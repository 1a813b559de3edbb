/- Unrounded scaling: two products of 64 bits tell twice the wh -/
import Derived.Test.YthpdlidbaojlbaaGreatDoorQ00
set_option linter.unusedVariables false
set_option linter.unusedSimpArgs false
set_option maxHeartbeats 4000000
namespace Go.Proofs.YthpdlidbaojlbaaGreatDoor
namespace fl
def B:Nat:=4503599627370496
theorem V0:B=2 ^ 52:=by decide
def V (u:Nat):Nat:=if u<B then u else (B+u % B)*2 ^ (u / B-1)
def st (u:Nat):Nat:=2 ^ (u / B-1)
theorem AW (u:Nat):0<st u:=bf (by decide)
theorem mR {u:Nat} (h:u<B):V u=u:=by unfold V;rw[aQ h]
theorem rL (e m:Nat) (h1:B≤m) (h2:m<2*B):V (e*B+m)=m*2 ^ e:=by
 have hB:0<B:=by decide
 unfold V;have hge:¬e*B+m<B:=by omega
 rw[aJ hge];have hm:m=B+(m-B):=by omega
 have e1:(e*B+m) % B=m-B:=by rw[hm,show e*B+(B+(m-B))=(m-B)+B*(e+1) by rw[dF,aK];omega,Nat.add_mul_mod_self_left,ej (by omega)];omega
 have e2:(e*B+m) / B=e+1:=by rw[hm,show e*B+(B+(m-B))=(m-B)+B*(e+1) by rw[dF,aK];omega,ki _ _ hB,fa (by omega)];omega
 rw[e1,e2,show B+(m-B)=m by omega,cW]
theorem wu (u:Nat) (h:B≤u):∃ e m,u=e*B+m∧B≤m∧m<2*B:=by
 have hB:0<B:=by decide
 refine⟨u / B-1,B+u % B,?_,by omega,by have:=dq u hB;omega⟩;have h1:=cY u B;have h2:1≤u / B:=(iq hB).2 (by omega)
 have h3:(u / B-1)*B+B=B*(u / B):=by
  rw[xr,aK];have:1*B≤B*(u / B):=by rw[aK B];exact aI _ h2
  omega
 omega
theorem tS (e m:Nat) (h1:B≤m) (h2:m≤2*B):V (e*B+m)=m*2 ^ e:=by
 rcases dY h2 with h|h
 ·exact rL e m h1 h
 ·subst h;have:=rL (e+1) B (aq _) (by decide);rw[show e*B+2*B=(e+1)*B+B by rw[bS];omega,this,Nat.pow_succ];rw[aK (2 ^ e),aA,←aA B 2,aK B 2,aA]
theorem u4 (e m:Nat) (h1:B≤m) (h2:m<2*B):st (e*B+m)=2 ^ e:=by
 have hB:0<B:=by decide
 unfold st;have hm:m=B+(m-B):=by omega
 have e2:(e*B+m) / B=e+1:=by rw[hm,show e*B+(B+(m-B))=(m-B)+B*(e+1) by rw[dF,aK];omega,ki _ _ hB,fa (by omega)];omega
 rw[e2];rfl
theorem uN (u:Nat):V (u+1)=V u+st u:=by
 by_cases h:u<B
 ·have hs:st u=1:=by unfold st;rw[fa h]
  rw[hs,mR h]
  by_cases h2:u+1<B
  ·exact mR h2
  ·have:u+1=0*B+B:=by omega
   rw[this,rL 0 B (aq _) (by decide)];omega
 ·obtain⟨e,m,rfl,h1,h2⟩:=wu u (by omega);rw[u4 e m h1 h2,rL e m h1 h2,fW,tS e (m+1) (by omega) (by omega),bS,dv]
theorem sZ {u v:Nat} (h:u<v):V u<V v:=by
 induction v with
 | zero=>omega
 | succ v ih=>
  have:=uN v;have:=AW v
  rcases dY (Nat.le_of_lt_succ h) with h|h
  ·have:=ih h;omega
  ·subst h;omega
theorem zN {u v:Nat} (h:u≤v):V u≤V v:=by
 rcases dY h with h|h
 ·exact bW (sZ h)
 ·subst h;exact aq _
theorem rK:V 0=0:=by decide
structure eZ (N D u:Nat):Prop where
 lo:u=0∨(V (u-1)+V u)*D<2*N∨((V (u-1)+V u)*D=2*N∧u % 2=0)
 hi:2*N<(V u+V (u+1))*D∨(2*N=(V u+V (u+1))*D∧u % 2=0)
theorem Gm {N D u v:Nat} (hD:0<D) (hu:eZ N D u) (hv:eZ N D v) (h:u<v):False:=by
 have h1:2*N≤(V u+V (u+1))*D:=by rcases hu.hi with h|h<;>omega
 have h2:(V (v-1)+V v)*D≤2*N:=by rcases hv.lo with h|h|h<;>omega
 have h3:V u≤V (v-1):=zN (by omega);have h4:V (u+1)≤V v:=zN (by omega);have h5:V u+V (u+1)≤V (v-1)+V v:=by omega
 have h6:(V u+V (u+1))*D≤(V (v-1)+V v)*D:=aI _ h5;have h7:(V u+V (u+1))*D=(V (v-1)+V v)*D:=by omega
 have h8:V u+V (u+1)=V (v-1)+V v:=fp hD h7;have h9:¬V u<V (v-1):=by omega
 have h10:¬u<v-1:=fun h=>h9 (sZ h)
 have h11:v=u+1:=by omega
 have e1:u % 2=0:=by rcases hu.hi with h|h<;>omega
 have e2:v % 2=0:=by rcases hv.lo with h|h|h<;>omega
 omega
theorem nh {N D u v:Nat} (hD:0<D) (hu:eZ N D u) (hv:eZ N D v):u=v:=by
 rcases fH u v with h|h|h
 ·exact(Gm hD hu hv h).elim
 ·exact h
 ·exact(Gm hD hv hu h).elim
theorem yG {N D u:Nat} (k:Nat) (hk:0<k):eZ (N*k) (D*k) u↔eZ N D u:=by
 have e:∀ a:Nat,a*(D*k)=(a*D)*k:=fun a=>(aA _ _ _).symm
 have e2:2*(N*k)=(2*N)*k:=(aA _ _ _).symm;have l:∀ a b:Nat,a*k<b*k↔a<b:=fun a b=>kf hk
 have q:∀ a b:Nat,a*k=b*k↔a=b:=fun a b=>⟨fun h=>fp hk h,fun h=>by rw[h]⟩
 constructor
 ·rintro⟨h1,h2⟩;rw[e,e2,l,q] at h1 h2;exact⟨h1,h2⟩
 ·rintro⟨h1,h2⟩;refine⟨?_,?_⟩<;>rw[e,e2,l,q]
  ·exact h1
  ·exact h2
theorem oG {N D N' D' u:Nat} (hD:0<D) (hD':0<D') (h:N*D'=N'*D) (hn:eZ N D u):eZ N' D' u:=by rw[←yG D hD,←h,aK D' D];exact(yG D' hD').2 hn
def rd (n d:Nat):Nat:=n / d+(if d<2*(n % d)∨(2*(n % d)=d∧n / d % 2=1) then 1 else 0)
theorem Nt (n d:Nat) (hd:0<d):(rd n d=0∨(2*rd n d-1)*d<2*n∨((2*rd n d-1)*d=2*n∧rd n d % 2=0))∧(2*n<(2*rd n d+1)*d∨(2*n=(2*rd n d+1)*d∧rd n d % 2=0)):=by
 have h1:=cY n d;have h2:=dq n hd;unfold rd;generalize n / d=q at *
 generalize n % d=r at *
 have e1:(2*q+1)*d=2*(d*q)+d:=by rw[bS,aA,aK q];omega
 split
 ·rename_i h
  have e2:(2*(q+1)-1)*d=2*(d*q)+d:=by rw[show 2*(q+1)-1=2*q+1 by omega,e1]
  have e3:(2*(q+1)+1)*d=2*(d*q)+3*d:=by rw[bS,aA,aK (q+1),dF];omega
  rw[e2,e3];refine⟨?_,.inl (by omega)⟩
  rcases h with h|h
  ·exact .inr (.inl (by omega))
  ·exact .inr (.inr ⟨by omega,by omega⟩)
 ·rename_i h
  have h:¬d<2*r∧¬(2*r=d∧q % 2=1):=⟨fun x=>h (.inl x),fun x=>h (.inr x)⟩;rw[Nat.add_zero,e1];refine⟨?_,?_⟩
  ·rcases cV q with hq|hq
   ·exact .inl hq
   ·have e4:(2*q-1)*d=2*(d*q)-d:=by rw[xr,aA,aK q,dv]
    have h9:d*1≤d*q:=bG d hq;rw[e4];exact .inr (.inl (by omega))
  ·rcases dY (show 2*r≤d by omega) with h3|h3
   ·exact .inl (by omega)
   ·exact .inr ⟨by omega,by have:=h.2;omega⟩
theorem re {N D e m:Nat} (hD:0<D) (hm:rd N (D*2 ^ e)=m) (hlo:e=0∨(B≤m∧(m=B→2*B*(D*2 ^ e)≤2*N))) (hhi:m≤2*B):eZ N D (e*B+m):=by
 have hE:0<2 ^ e:=bf (by decide);obtain⟨h1,h2⟩:=Nt N (D*2 ^ e) (df hD hE);rw[hm] at h1 h2;have hBe:B % 2=0:=by decide
 have hpar:(e*B+m) % 2=m % 2:=by rw[Nat.add_mod,Nat.mul_mod,hBe];simp
 have e0:∀ a:Nat,a*2 ^ e*D=a*(D*2 ^ e):=fun a=>by rw[aA,aK (2 ^ e)]
 have hV:V (e*B+m)=m*2 ^ e∧V (e*B+m+1)=(m+1)*2 ^ e∨(m=2*B∧V (e*B+m)=m*2 ^ e∧V (e*B+m+1)=(m+2)*2 ^ e):=by
  rcases dD m B with D8|D8
  ·rcases hlo with rfl|h
   ·left
    simp only[fO,bD,Nat.pow_zero,bB];refine⟨mR D8,?_⟩;rw[uN,mR D8];unfold st;rw[fa D8]
   ·omega
  ·rcases dY hhi with h|h
   ·left
    rw[fW];exact⟨tS e m D8 hhi,tS e (m+1) (by omega) (by omega)⟩
   ·right
    refine⟨h,tS e m D8 hhi,?_⟩;rw[uN,tS e m D8 hhi,h,show e*B+2*B=(e+1)*B+B by rw[bS];omega,u4 (e+1) B (aq _) (by decide),bS,Nat.pow_succ];omega
 refine⟨?_,?_⟩
 ·by_cases hz:e*B+m=0
  ·exact .inl hz
  ·right
   rw[hpar];have hB0:0<B:=by decide
   have hm0:0<m:=by rcases hlo with rfl|⟨h,_⟩<;>omega
   have hVm:V (e*B+m)=m*2 ^ e:=by rcases hV with h|h<;>first|exact h.1|exact h.2.1
   rw[hVm]
   by_cases hb:e≠0∧m=B
   ·obtain⟨he,D8⟩:=hb;obtain⟨f,rfl⟩:∃ f,e=f+1:=⟨e-1,by omega⟩
    have Yw:V ((f+1)*B+m-1)=(2*B-1)*2 ^ f:=by rw[D8,show(f+1)*B+B-1=f*B+(2*B-1) by rw[bS];omega,rL f (2*B-1) (by omega) (by omega)]
    have h3:2*B*(D*2 ^ (f+1))≤2*N:=by
     rcases hlo with h|h
     ·omega
     ·exact h.2 D8
    rw[Yw,D8]
    left
    have e5:((2*B-1)*2 ^ f+B*2 ^ (f+1))*D=(4*B-1)*(D*2 ^ f):=by rw[Nat.pow_succ,show B*(2 ^ f*2)=2*B*2 ^ f by rw[aK (2 ^ f),←aA,aK B],←bS,show 2*B-1+2*B=4*B-1 by omega,aA,aK (2 ^ f)]
    have e6:2*B*(D*2 ^ (f+1))=4*B*(D*2 ^ f):=by
     rw[Nat.pow_succ,←aA D,aK _ 2,←aA (2*B) 2]
     congr 1
    have e7:(4*B-1)*(D*2 ^ f)<4*B*(D*2 ^ f):=bq (by omega) (df hD (bf (by decide)));omega
   ·have Yw:V (e*B+m-1)=(m-1)*2 ^ e:=by
     rcases dD (m-1) B with h|h
     ·have he:e=0:=by
       rcases hlo with h'|h'
       ·exact h'
       ·by_cases e0:e=0
        ·exact e0
        ·exact(hb ⟨e0,by omega⟩).elim
      subst he;rw[fO,bD,mR h,Nat.pow_zero,bB]
     ·rw[show e*B+m-1=e*B+(m-1) by omega,tS e (m-1) h (by omega)]
    rw[Yw,←bS,show m-1+m=2*m-1 by omega,e0]
    rcases h1 with h|h|h
    ·omega
    ·exact .inl h
    ·exact .inr h
 ·rw[hpar]
  rcases hV with⟨a,b⟩|⟨c,a,b⟩
  ·rw[a,b,←bS,show m+(m+1)=2*m+1 by omega,e0];exact h2
  ·rw[a,b,←bS,e0]
   left
   have h9:(2*m+1)*(D*2 ^ e)<(m+(m+2))*(D*2 ^ e):=bq (by omega) (df hD hE)
   rcases h2 with h|h<;>omega
theorem gap {A M a q a' q' k D1 D2 x m lo hi:Int} (hq:0<q) (hq':0<q') (Yo:a'*q-a*q'=1∨a'*q-a*q'=-1)
  (h1:q*A-a*M=D1) (h2:q'*A-a'*M=D2) (hs:(0≤D1∧D2≤0)∨(D1≤0∧0≤D2))
  (hx:(lo≤x∧x<hi∧(k-1)*q<lo∧(k-1)*q≤q'-hi∧hi≤q'∧1≤k)∨(D2=0∧k=1)) (hlo:0<x):
  x*A-m*M=0∨(k*D1≤x*A-m*M∧-(k*D1)≤x*A-m*M∧0<x*A-m*M)∨(x*A-m*M≤k*D1∧x*A-m*M≤-(k*D1)∧x*A-m*M<0):=by
 obtain⟨i,j,ex,em⟩:∃ i j:Int,i*q+j*q'=x∧i*a+j*a'=m:=by
  rcases Yo with h|h
  ·refine⟨a'*x-q'*m,q*m-a*x,?_,?_⟩
   ·have:(a'*x-q'*m)*q+(q*m-a*x)*q'=(a'*q-a*q')*x:=by simp only[pT,pU,mS,om,jW];omega
    rw[this,h,lC]
   ·have:(a'*x-q'*m)*a+(q*m-a*x)*a'=(a'*q-a*q')*m:=by simp only[pT,pU,mS,om,jW];omega
    rw[this,h,lC]
  ·refine⟨q'*m-a'*x,a*x-q*m,?_,?_⟩
   ·have:(q'*m-a'*x)*q+(a*x-q*m)*q'=-((a'*q-a*q')*x):=by simp only[pT,pU,mS,om,jW];omega
    rw[this,h];omega
   ·have:(q'*m-a'*x)*a+(a*x-q*m)*a'=-((a'*q-a*q')*m):=by simp only[pT,pU,mS,om,jW];omega
    rw[this,h];omega
 have eD:x*A-m*M=i*D1+j*D2:=by rw[←h1,←h2,←ex,←em];simp only[pT,pU,Int.add_mul,Int.mul_add,mS,om,jW];omega
 rw[eD];have mono:∀ {u v w:Int},u≤v→0≤w→u*w≤v*w:=fun h hw=>Int.mul_le_mul_of_nonneg_right h hw
 rcases hx with⟨g1,g2,g3,g4,g5,g6⟩|⟨g1,g2⟩
 ·have hi0:i≠0:=by
   rintro rfl;rw[Int.zero_mul,Int.zero_add] at ex
   rcases gI 0 j with h|h
   ·have:=mono (show(1:Int)≤j by omega) (show 0≤q' by omega);omega
   ·have:=mono h (show 0≤q' by omega);omega
  rcases gI 0 i with hi1|hi1
  ·have hj:j≤0:=by
    rcases gI 0 j with h|h
    ·have e1:=mono (show(1:Int)≤j by omega) (show 0≤q' by omega);have e2:=mono (show(1:Int)≤i by omega) (show 0≤q by omega);omega
    ·exact h
   have hik:k≤i:=by
    rcases gI i k with h|h
    ·have e1:=mono (show i≤k-1 by omega) (show 0≤q by omega);have e2:=mono hj (show 0≤q' by omega);omega
    ·exact h
   rcases hs with⟨s1,s2⟩|⟨s1,s2⟩
   ·have e1:=mono hik s1;have e2:0≤j*D2:=by have:=gh (show 0≤-j by omega) (show 0≤-D2 by omega);rwa [rX] at this
    have e3:0≤k*D1:=gh (by omega) s1
    rcases gI 0 (i*D1+j*D2) with h|h
    ·exact .inr (.inl ⟨by omega,by omega,h⟩)
    ·exact .inl (by omega)
   ·have e1:=mono hik (show 0≤-D1 by omega);have e2:j*D2≤0:=by have:=gh (show 0≤-j by omega) s2;rw[nE] at this;omega
    have e3:0≤k*-D1:=gh (by omega) (by omega);rw[lD] at e1 e3;rw[lD] at e1
    rcases gI (i*D1+j*D2) 0 with h|h
    ·exact .inr (.inr ⟨by omega,by omega,h⟩)
    ·exact .inl (by omega)
  ·have hj:0<j:=by
    rcases gI 0 j with h|h
    ·exact h
    ·have e1:=mono h (show 0≤q' by omega);have e2:=mono hi1 (show 0≤q by omega);omega
   have hik:k≤-i:=by
    rcases gI (-i) k with h|h
    ·have e1:=mono (show -i≤k-1 by omega) (show 0≤q by omega);have e2:=mono (show 1≤j by omega) (show 0≤q' by omega);rw[nE] at e1;omega
    ·exact h
   rcases hs with⟨s1,s2⟩|⟨s1,s2⟩
   ·have e1:=mono hik s1;rw[nE] at e1;have e2:j*D2≤0:=by have:=gh (show 0≤j by omega) (show 0≤-D2 by omega);rw[lD] at this;omega
    have e3:0≤k*D1:=gh (by omega) s1
    rcases gI (i*D1+j*D2) 0 with h|h
    ·exact .inr (.inr ⟨by omega,by omega,h⟩)
    ·exact .inl (by omega)
   ·have e1:=mono hik (show 0≤-D1 by omega);rw[rX,lD] at e1;have e2:0≤j*D2:=gh (by omega) s2;have e3:0≤k*-D1:=gh (by omega) (by omega);rw[lD] at e3
    rcases gI 0 (i*D1+j*D2) with h|h
    ·exact .inr (.inl ⟨by omega,by omega,h⟩)
    ·exact .inl (by omega)
 ·subst g2;rw[g1,vT,Int.add_zero,lC]
  rcases dy i 0 with h|h|h
  ·rcases dy D1 0 with d|d|d
   ·have e1:=mono (show 1≤-i by omega) (show 0≤-D1 by omega);rw[rX,lC] at e1;exact .inr (.inl ⟨by omega,by omega,by omega⟩)
   ·left;rw[d,vT]
   ·have e1:=mono (show 1≤-i by omega) (show 0≤D1 by omega);rw[nE,lC] at e1;exact .inr (.inr ⟨by omega,by omega,by omega⟩)
  ·left;rw[h,Int.zero_mul]
  ·rcases dy D1 0 with d|d|d
   ·have e1:=mono (show 1≤i by omega) (show 0≤-D1 by omega);simp only[lD,lC] at e1;exact .inr (.inr ⟨by omega,by omega,by omega⟩)
   ·left;rw[d,vT]
   ·have e1:=mono (show 1≤i by omega) (show 0≤D1 by omega);rw[lC] at e1;exact .inr (.inl ⟨by omega,by omega,by omega⟩)
def lpI (p:Int):Int:=p*108853 / 32768
def PA (p:Int):Nat:=(if 0≤p then 10 ^ p.toNat else 1)*(if lpI p+10<0 then 2 ^ (-(lpI p+10)).toNat else 1)
def PM (p:Int):Nat:=(if 0≤p then 1 else 10 ^ (-p).toNat)*(if lpI p+10<0 then 1 else 2 ^ (lpI p+10).toNat)
def zi (A M:Nat) (c:Nat×Nat×Nat×Nat×Nat):Bool:=
 let a:=c.1;let q:=c.2.1;let a':=c.2.2.1;let q':=c.2.2.2.1;let k:=c.2.2.2.2
 decide (0<q) && decide (0<q') && (a'*q == a*q'+1 || a'*q+1 == a*q') &&
 (if a*M≤q*A then decide (q'*A≤a'*M) && decide (M≤k*(q*A-a*M)*4722366482869645213696) else decide (a'*M≤q'*A) && decide (M≤k*(a*M-q*A)*4722366482869645213696)) &&
 ((decide ((k-1)*q<9223372036854775808) && decide ((k-1)*q+18446744073709551616≤q') && decide (1≤k))|| (q'*A == a'*M && k == 1))
theorem DG {A M:Nat} {c:Nat×Nat×Nat×Nat×Nat} (hc:zi A M c=true) (x m:Nat) (h1:9223372036854775808≤x) (h2:x<18446744073709551616):
  x*A=m*M∨(m*M<x*A∧M≤(x*A-m*M)*4722366482869645213696)∨(x*A<m*M∧M≤(m*M-x*A)*4722366482869645213696):=by
 obtain⟨a,q,a',q',k⟩:=c;simp only[zi,cQ,jL,dr,mH] at hc;obtain⟨⟨⟨⟨c1,c2⟩,c3⟩,c4⟩,c5⟩:=hc
 have key:=gap (A:=A) (M:=M) (a:=a) (q:=q) (a':=a') (q':=q') (k:=k) (D1:=(q:Int)*A-a*M) (D2:=(q':Int)*A-a'*M) (x:=x) (m:=m) (lo:=9223372036854775808) (hi:=18446744073709551616)
  (by omega) (by omega)
  (by
   rcases c3 with h|h
   ·left;have:(a':Int)*q=a*q'+1:=by exact_mod_cast h
    omega
   ·right;have:(a':Int)*q+1=a*q':=by exact_mod_cast h
    omega) rfl rfl
  (by
   split at c4
   ·rename_i h
    simp only[cQ,dr] at c4
    left
    have e1:(a:Int)*M≤q*A:=by exact_mod_cast h
    have e2:(q':Int)*A≤a'*M:=by exact_mod_cast c4.1
    omega
   ·rename_i h
    simp only[cQ,dr] at c4
    right
    have e1:(q:Int)*A≤a*M:=by exact_mod_cast (bW (Nat.lt_of_not_le h))
    have e2:(a':Int)*M≤q'*A:=by exact_mod_cast c4.1
    omega)
  (by
   rcases c5 with⟨⟨h3,h4⟩,h5⟩|⟨h3,h4⟩
   ·left
    have e1:((k:Int)-1)*q=((k-1)*q:Nat):=by rw[Int.natCast_mul,nN h5];rfl
    have e0:q' ≥ 18446744073709551616:=by omega
    rw[e1];omega
   ·right
    have:(q':Int)*A=a'*M:=by exact_mod_cast h3
    omega) (by omega)
 have ex:(x:Int)*A=((x*A:Nat):Int):=by simp
 have em:(m:Int)*M=((m*M:Nat):Int):=by simp
 have ekD:((k:Int)*((q:Int)*A-a*M)=((k*(q*A-a*M):Nat):Int)∧a*M≤q*A∧M≤k*(q*A-a*M)*4722366482869645213696)∨((k:Int)*((q:Int)*A-a*M)=-((k*(a*M-q*A):Nat):Int)∧M≤k*(a*M-q*A)*4722366482869645213696):=by
  split at c4
  ·rename_i h
   simp only[cQ,dr] at c4
   left
   refine⟨?_,h,c4.2⟩;rw[Int.natCast_mul,nN h];simp
  ·rename_i h
   simp only[cQ,dr] at c4
   right
   refine⟨?_,c4.2⟩;rw[Int.natCast_mul,nN (bW (Nat.lt_of_not_le h)),←lD,Int.natCast_mul,Int.natCast_mul,Int.neg_sub]
 rw[ex,em] at key;clear ex em c4 c5 c3;generalize x*A=X at *
 generalize m*M=Y at *
 rcases ekD with⟨e,_,hk⟩|⟨e,hk⟩
 all_goals
  rw[e] at key;clear e
  rcases key with key|⟨k1,k2,k3⟩|⟨k1,k2,k3⟩
  ·left;omega
  ·right;left;refine⟨by omega,aF hk (aI _ (by omega))⟩
  ·right;right;refine⟨by omega,aF hk (aI _ (by omega))⟩
def ev {α:Type} (n:Nat) (f:Nat→α):α:=match n with
 | 0=>f 0
 | k+1=>f (k+1)
theorem LJ {α:Type} (n:Nat) (f:Nat→α):ev n f=f n:=by cases n<;>rfl
def cfB (A M:Nat):Nat→Nat→Nat→Nat→Nat→Nat→Nat→Bool
 | 0,_,_,_,_,_,_=>false
 | n+1,r0,r1,a0,q0,a1,q1=>
  ev (a1*(r0 / r1)+a0) fun a=>ev (q1*(r0 / r1)+q0) fun q=>ev (r0 % r1) fun r=>
   cond (Nat.beq r 0 || Nat.ble 18446744073709551616 q)
    (cond (Nat.beq q1 0) (zi A M (a-1,1,a,q,1)) (zi A M (a1,q1,a,q,cond (Nat.beq r 0) 1 (1+min (9223372036854775807 / q1) ((q-18446744073709551616) / q1)))))
    (cfB A M n r1 r a1 q1 a q)
theorem L0 (A M:Nat):∀ n r0 r1 a0 q0 a1 q1,cfB A M n r0 r1 a0 q0 a1 q1=true→∃ c,zi A M c=true:=by
 intro n
 induction n with
 | zero=>intro r0 r1 a0 q0 a1 q1 h;cases h
 | succ n ih=>
  intro r0 r1 a0 q0 a1 q1 h;simp only[cfB,LJ] at h
  revert h
  cases (Nat.beq (r0 % r1) 0 || Nat.ble 18446744073709551616 (q1*(r0 / r1)+q0))
  ·exact ih _ _ _ _ _ _
  ·cases Nat.beq q1 0
   ·exact fun h=>⟨_,h⟩
   ·exact fun h=>⟨_,h⟩
def NH (p:Int):Bool:=ev (PA p) fun A=>ev (PM p) fun M=>cfB A M 60 A M 0 1 1 0
def okB:Nat→Nat→Bool
 | 0,s=>NH ((s:Int)-345)
 | k+1,s=>okB k s && ev (s+2 ^ k) (okB k)
theorem Bm:∀ {k s i:Nat},okB k s=true→s≤i→i<s+2 ^ k→NH ((i:Int)-345)=true
 | 0,s,i,h,h1,h2=>by
  have:i=s:=by simp at h2;omega
  rw[this];exact h
 | k+1,s,i,h,h1,h2=>by
  simp only[okB,LJ,cQ] at h;rw[Nat.pow_succ] at h2
  rcases dD i (s+2 ^ k) with g|g
  ·exact Bm h.1 h1 g
  ·exact Bm h.2 g (by omega)
theorem L5:∀ k,k<20→okB 5 (32*k)=true
 | 0,_=>by decide +kernel
 | 1,_=>by decide +kernel
 | 2,_=>by decide +kernel
 | 3,_=>by decide +kernel
 | 4,_=>by decide +kernel
 | 5,_=>by decide +kernel
 | 6,_=>by decide +kernel
 | 7,_=>by decide +kernel
 | 8,_=>by decide +kernel
 | 9,_=>by decide +kernel
 | 10,_=>by decide +kernel
 | 11,_=>by decide +kernel
 | 12,_=>by decide +kernel
 | 13,_=>by decide +kernel
 | 14,_=>by decide +kernel
 | 15,_=>by decide +kernel
 | 16,_=>by decide +kernel
 | 17,_=>by decide +kernel
 | 18,_=>by decide +kernel
 | 19,_=>by decide +kernel
 | k+20,h=>by omega
theorem Fu:okB 4 640=true:=by decide +kernel
theorem L6 {i:Nat} (h:i<656):NH ((i:Int)-345)=true:=by
 rcases dD i 640 with g|g
 ·exact Bm (s:=32*(i / 32)) (L5 (i / 32) (by omega)) (by omega) (by omega)
 ·exact Bm Fu g (by omega)
theorem far (p:Int) (h1:-345≤p) (h2:p≤310) (x m:Nat) (hx1:9223372036854775808≤x) (hx2:x<18446744073709551616):
  x*PA p=m*PM p∨(m*PM p<x*PA p∧PM p≤(x*PA p-m*PM p)*4722366482869645213696)∨(x*PA p<m*PM p∧PM p≤(m*PM p-x*PA p)*4722366482869645213696):=by
 have h:=L6 (i:=(p+345).toNat) (by omega);rw[show((p+345).toNat:Int)-345=p by omega] at h;simp only[NH,LJ] at h;obtain⟨c,hc⟩:=L0 _ _ _ _ _ _ _ _ _ h;exact DG hc x m hx1 hx2
def W:Nat:=18446744073709551616
theorem uB (n b:Nat) (hb:b≤1):n ||| b=2*(n / 2)+(if n % 2=1∨b=1 then 1 else 0):=by
 have h1:(n ||| b) / 2=n / 2:=by
  have:(n ||| b) >>> 1=(n >>> 1)||| (b >>> 1):=Nat.shiftRight_or_distrib
  simp only[gp,ke] at this;rw[this,fa (show b<2 by omega),pS]
 have h2:(n ||| b) % 2=if n % 2=1∨b=1 then 1 else 0:=by
  have e:=oV n b 0;simp only[Nat.testBit_zero] at e;have hb2:b=0∨b=1:=by omega
  rcases hb2 with rfl|rfl
  ·rw[pS]
   rcases dK n with h|h<;>simp[h]
  ·simp at e ⊢
 have:=cY (n ||| b) 2;rw[h1,h2] at this;exact this.symm
def usc (x rZ qW s:Nat):Nat:=
 let hi:=x*rZ / W
 let mid:=x*rZ % W
 if hi / 2 ^ s*2 ^ s≠hi then hi / 2 ^ s ||| 1
 else
  let po:=x*qW / W
  (hi-(if mid<po then 1 else 0)) / 2 ^ s ||| (if 1<(mid+W-po) % W then 1 else 0)
theorem P5 {x rZ qW s A M:Nat} (hx1:9223372036854775808≤x) (hx2:x<W) (hh:1<rZ) (hlo:qW<W) (hs:8≤s) (hM:0<M)
  (far:∀ m,x*A=m*M∨(m*M<x*A∧M≤(x*A-m*M)*4722366482869645213696)∨(x*A<m*M∧M≤(m*M-x*A)*4722366482869645213696))
  (p1:2 ^ 137*A+qW*M≤rZ*W*M) (p2:rZ*W*M<2 ^ 137*A+qW*M+M):
  usc x rZ qW s=2*(x*A / (M*2 ^ (s-8)))+(if x*A % (M*2 ^ (s-8))=0 then 0 else 1):=by
 obtain⟨k,rfl⟩:∃ k,s=k+8:=⟨s-8,by omega⟩;rw[cW];have hK:0<2 ^ k:=bf (by decide);have hD:0<M*2 ^ k:=df hM hK;have d1:=cY (x*A) (M*2 ^ k);have d2:=dq (x*A) hD;have f1:=far (2 ^ k*(x*A / (M*2 ^ k)));have f2:=far (2 ^ k*(x*A / (M*2 ^ k)+1));generalize x*A / (M*2 ^ k)=w at *
 generalize x*A % (M*2 ^ k)=r at *
 have h64:W=18446744073709551616:=rfl;have m1:=cY (x*rZ) W;have m2:=dq (x*rZ) (show 0<W by decide);have m3:=cY (x*qW) W;have m4:=dq (x*qW) (show 0<W by decide)
 have m5:x*qW / W≤W-2:=by
  have e1:x*qW≤(W-1)*(W-1):=gK (by omega) (by omega);have e2:x*qW / W≤(W-1)*(W-1) / W:=Nat.div_le_div_right e1;have e3:(W-1)*(W-1) / W=W-2:=by decide
  omega
 have m6:1≤x*rZ / W:=by rw[iq (by decide)];have:9223372036854775808*2≤x*rZ:=gK hx1 hh;omega
 unfold usc;simp only[];have Lm:x*rZ*M*W=x*(rZ*W*M):=by simp only[aA,aK,bH]
 have hP1:x*(2 ^ 137*A+qW*M)≤x*(rZ*W*M):=bG x p1
 have hP2:x*(rZ*W*M)+x≤x*(2 ^ 137*A+qW*M+M):=by
  have:=bG x (show rZ*W*M+1≤_ from p2)
  rwa [dF,bB] at this
 have q1:x*(2 ^ 137*A+qW*M)=2 ^ 137*(x*A)+x*qW*M:=by rw[dF];simp only[aA,aK,bH]
 have q2:x*(2 ^ 137*A+qW*M+M)=2 ^ 137*(x*A)+x*qW*M+x*M:=by rw[dF,q1]
 rw[←Lm,q1] at hP1;rw[←Lm,q2] at hP2;generalize x*rZ / W=hi at *
 generalize x*rZ % W=mid at *
 generalize x*qW / W=po at *
 generalize x*qW % W=lo2 at *
 rw[←m1] at hP1 hP2;rw[←m3] at hP1 hP2;have t1:(W*hi+mid)*M*W=(hi*W+mid)*M*W:=by rw[aK W hi]
 have t2:(W*po+lo2)*M=po*M*W+lo2*M:=by rw[bS];simp only[aA,aK,bH]
 have t3:2 ^ 137*(x*A)=2 ^ 73*(x*A)*W:=by rw[show(2:Nat) ^ 137=2 ^ 73*W by decide];simp only[aA,aK,bH]
 rw[t1,t2,t3] at hP1 hP2;clear t1 t2 t3 Lm q1 q2 p1 p2 far;have hxM:x*M≤(W-1)*M:=aI M (by omega);have X9:lo2*M≤(W-1)*M:=aI M (by omega)
 have c1:2 ^ 73*(x*A)+po*M≤(hi*W+mid)*M:=by refine eO (c:=W) ?_ (by decide);rw[bS];exact aF (Nat.add_le_add_left (Nat.le_add_right _ _) _) hP1
 have c2:(hi*W+mid)*M<2 ^ 73*(x*A)+po*M+2*M:=by
  refine eN (a:=W) ?_;rw[bS (_+_) (2*M) W,bS (2 ^ 73*(x*A)) _ W];have e2:2*M*W=(W-1)*M+(W-1)*M+2*M:=by rw[←bS,←bS,aA,aK M W,←aA];rfl
  rw[e2];clear hP1 c1 e2 f1 f2 d1 m1 m2 m3 m4 m5 h64;generalize 2 ^ 73*(x*A)*W=a1 at *
  generalize po*M*W=a2 at *
  generalize (hi*W+mid)*M*W=a3 at *
  generalize (W-1)*M=a4 at *
  generalize x*M=a5 at *
  generalize lo2*M=a6 at *
  omega
 clear hP1 hP2 hxM X9;rw[←d1] at c1 c2 f1 f2;clear d1
 have g1:2 ^ 73*(M*2 ^ k*w+r)=(w*(2 ^ (k+9)*W))*M+2 ^ 73*r:=by rw[dF,aY 2 k 9,show(2:Nat) ^ 73=2 ^ 9*W by decide];simp only[aA,aK,bH]
 have g2:2 ^ k*w*M=M*2 ^ k*w:=by simp only[aA,aK,bH]
 have g3:2 ^ k*(w+1)*M=M*2 ^ k*w+M*2 ^ k:=by rw[dF,bS,g2,bB,aK M]
 rw[g1] at c1 c2;rw[g2] at f1;rw[g3] at f2
 have hT1:w*(2 ^ (k+9)*W)+po≤hi*W+mid:=by refine eO (c:=M) ?_ hM;rw[bS];omega
 obtain⟨t,ht⟩:∃ t,hi*W+mid=w*(2 ^ (k+9)*W)+po+t:=⟨_,(eB hT1).symm⟩;rw[ht,bS,bS] at c1 c2;clear hT1
 have hmm:2 ^ 73*(M*2 ^ k)=2 ^ (k+9)*W*M:=by rw[aY 2 k 9,show(2:Nat) ^ 73=2 ^ 9*W by decide];simp only[aA,aK,bH]
 have ht0:(r=0∧t≤1)∨(r≠0∧2≤t∧t<2 ^ (k+9)*W):=by
  rcases cV r with h|h
  ·left
   refine⟨h,?_⟩;subst h;have:t*M<2*M:=by omega
   have:=eN this;omega
  ·right
   refine⟨by omega,?_,?_⟩
   ·have:M≤r*4722366482869645213696:=by
     rcases f1 with f|f|f
     ·omega
     ·have:=f.2;rwa [dC] at this
     ·omega
    have:2*M≤t*M:=by
     have e:(2:Nat) ^ 73=2*4722366482869645213696:=by decide
     rw[e] at c1;rw[aA] at c1;omega
    exact eO this hM
   ·have:M≤(M*2 ^ k-r)*4722366482869645213696:=by
     rcases f2 with f|f|f
     ·omega
     ·omega
     ·have:=f.2
      rwa [show M*2 ^ k*w+M*2 ^ k-(M*2 ^ k*w+r)=M*2 ^ k-r by omega] at this
    rw[xr] at this;refine eN (a:=M) ?_;rw[←hmm];have e:(2:Nat) ^ 73=2*4722366482869645213696:=by decide
    rw[e,aA] at c2 ⊢;rw[aK (M*2 ^ k)] at this;rw[aK r] at this;omega
 clear c1 c2 f1 f2 g1 g2 g3 hmm d2 hD;have hWp:0<W:=by decide
 have hS:2 ^ (k+9)=2*2 ^ (k+8):=by rw[Nat.pow_succ,aK]
 have hS0:0<2 ^ (k+8):=bf (by decide);rw[hS] at ht ht0;generalize 2 ^ (k+8)=S at *
 obtain⟨h',cl,hh',hcl,R7⟩:∃ h' cl:Nat,hi*W+mid=h'*W+cl+po∧cl<W∧((po≤mid∧h'=hi∧cl=mid-po)∨(mid<po∧h'+1=hi∧cl=mid+W-po∧2≤cl)):=by
  rcases dD mid po with h|h
  ·refine⟨hi-1,mid+W-po,?_,by omega,.inr ⟨h,by omega,rfl,by omega⟩⟩;obtain⟨h0,rfl⟩:∃ h0,hi=h0+1:=⟨hi-1,by omega⟩;rw[bS,cW];omega
  ·exact⟨hi,mid-po,by omega,by omega,.inl ⟨h,rfl,rfl⟩⟩
 have ht2:h'*W+cl=w*(2*S*W)+t:=by omega
 have hw2:w*(2*S*W)=w*(2*S)*W:=by rw[aA w]
 rw[hw2] at ht2
 have hge:w*(2*S)≤h':=by
  rcases dD h' (w*(2*S)) with h|h
  ·have:(h'+1)*W≤w*(2*S)*W:=aI W h;rw[bS] at this;omega
  ·exact h
 obtain⟨th,rfl⟩:∃ th,h'=w*(2*S)+th:=⟨h'-w*(2*S),by omega⟩;have ht3:t=th*W+cl:=by rw[bS] at ht2;omega
 have hth:th<2*S:=by
  rcases ht0 with h|h
  ·rcases cV th with h0|h0
   ·omega
   ·have:1*W≤th*W:=aI W h0;omega
  ·have:th*W<2*S*W:=by omega
   exact eN this
 have hq:(w*(2*S)+th) / S=2*w+th / S:=by rw[show w*(2*S)+th=th+S*(2*w) by rw[bH,jC,aK S,aA,aK w]];rw[ki _ _ hS0];omega
 have hb1:th / S≤1:=by have:=kh (show th<S*2 by omega);omega
 have Ud:∀ c:Nat,(2*w+th / S)||| 1=2*w+1:=by
  intro c;rw[uB _ 1 (aq _),aQ (.inr rfl)];generalize th / S=b1 at *
  omega
 by_cases hc:hi / S*S≠hi
 ·rw[aQ hc]
  have hdiv:hi / S=2*w+th / S:=by
   rcases R7 with⟨a,b,c⟩|⟨a,b,c,d⟩
   ·rw[←b,hq]
   ·rw[←b,←hq];rw[←b] at hc;have e1:=cY (w*(2*S)+th+1) S;have e2:=dq (w*(2*S)+th+1) hS0
    have e3:(w*(2*S)+th+1) % S≠0:=by intro h0;rw[h0,Nat.add_zero,aK] at e1;exact hc e1
    generalize (w*(2*S)+th+1) / S=Q at *
    symm
    rw[show w*(2*S)+th=((w*(2*S)+th+1) % S-1)+S*Q by omega,ki _ _ hS0,fa (by omega),bD]
  rw[hdiv,Ud 0];rw[aJ];intro hr
  rcases ht0 with⟨_,h⟩|h
  ·have XK:th=0:=by
    rcases cV th with h0|h0
    ·exact h0
    ·have:1*W≤th*W:=aI W h0;omega
   subst XK
   rcases R7 with⟨a,b,c⟩|⟨a,b,c,d⟩
   ·apply hc
    rw[←b,hq,Nat.zero_div,Nat.add_zero,Nat.add_zero,bH,aA]
   ·omega
  ·exact h.1 hr
 ·rw[aJ hc];have hc:hi / S*S=hi:=by omega
  rcases R7 with⟨a,b,c⟩|⟨a,b,c,d⟩
  ·rw[aJ (by omega),Nat.sub_zero,←b,hq]
   have Sv:(mid+W-po) % W=cl:=by rw[c,show mid+W-po=(mid-po)+W by omega,Nat.add_mod_right,ej (by omega)]
   rw[Sv]
   have RM:th=th / S*S:=by rw[←b,hq,bS,aK 2 w,aA] at hc;omega
   rcases cV (th / S) with h0|h0
   ·rw[h0,fO] at RM;subst RM;rw[h0,Nat.add_zero]
    by_cases UR:1<cl
    ·rw[aQ UR,uB _ 1 (aq _),aQ (.inr rfl),aJ (by rcases ht0 with h|h<;>omega)];omega
    ·rw[aJ UR,pS,aQ (by rcases ht0 with h|h<;>omega)];rfl
   ·have h1:th / S=1:=by omega
    have hr:r≠0:=by
     rcases ht0 with h|h
     ·have:1*W≤th*W:=aI W (by rw[RM,h1];omega);omega
     ·exact h.1
    rw[aJ hr,h1];rw[uB _ _ (by split<;>omega),aQ (.inl (by omega))];omega
  ·rw[aQ a,show hi-1=w*(2*S)+th by omega,hq];have Sv:(mid+W-po) % W=cl:=by rw[c,ej (by omega)]
   rw[Sv,aQ (by omega),Ud 0,aJ]
   rcases ht0 with h|h
   ·have:0≤th*W:=bz _;omega
   ·exact h.1
end fl
end Go.Proofs.YthpdlidbaojlbaaGreatDoor
