/- Rows of things that bear a text, in the order of their texts -/
import Derived.Test.YthpdlidbaojlbaaGreatDoorQ06
import Derived.Test.YthpdlidbaojlbaaGreatDoorQ03
set_option linter.unusedVariables false
set_option linter.unusedSimpArgs false
set_option maxHeartbeats 4000000
namespace Go.Proofs.YthpdlidbaojlbaaGreatDoor
namespace fl
def dX (c:Nat):Prop:=48≤c∧c≤57
structure RF where
 qa:Nat
 nd:Nat
 ndm:Nat
 dp:Int
 dot:Bool
 dig:Bool
 tr:Bool
def rf0:RF:=⟨0,0,0,0,false,false,false⟩
def oC (s:RF) (c:Nat):RF:=
 if c=46 then { s with dot:=true,dp:=s.nd }
 else if c=48∧s.nd=0 then { s with dig:=true,dp:=s.dp-1 }
 else if s.ndm<19 then { s with dig:=true,nd:=s.nd+1,qa:=s.qa*10+(c-48),ndm:=s.ndm+1 }
 else { s with dig:=true,nd:=s.nd+1,tr:=s.tr || c != 48 }
def rf (m:List Nat):RF:=m.foldl oC rf0
theorem A8 (m:List Nat) (c:Nat):rf (m++[c])=oC (rf m) c:=by unfold rf;rw[iK];rfl
def cX (m:List Nat):Nat:=m.foldl (fun a c=>if c=46 then a else a*10+(c-48)) 0
theorem ja (m:List Nat) (c:Nat):cX (m++[c])=if c=46 then cX m else cX m*10+(c-48):=by unfold cX;rw[iK];rfl
def lQ (m:List Nat):Nat×Bool:=m.foldl (fun a c=>if c=46 then (0,true) else if a.2 then (a.1+1,true) else a) (0,false)
theorem zd (m:List Nat) (c:Nat):lQ (m++[c])=if c=46 then (0,true) else if (lQ m).2 then ((lQ m).1+1,true) else lQ m:=by unfold lQ;rw[iK];rfl
inductive ta:List Nat→Bool→Prop
 | nil:ta [] false
 | dig {m:List Nat} {p:Bool} {c:Nat}:ta m p→dX c→ta (m++[c]) p
 | dot {m:List Nat}:ta m false→ta (m++[46]) true
structure Za (m:List Nat) (p:Bool):Prop where
 dot:(rf m).dot=p
 acp:(lQ m).2=p
 dp:p=true→(rf m).dp=(rf m).nd-(lQ m).1
 PE:p=false→(lQ m).1=0
 dp0:-(m.length:Int)≤(rf m).dp∧(rf m).dp≤m.length
 ndm:(rf m).ndm=min (rf m).nd 19
 nd:(rf m).nd≤m.length
 aaF:(lQ m).1≤m.length
 qa:(rf m).qa<10 ^ (rf m).ndm
 low:(rf m).nd≠0→10 ^ ((rf m).ndm-1)≤(rf m).qa
 zero:(rf m).nd=0→cX m=0
 num:∃ r,r<10 ^ ((rf m).nd-(rf m).ndm)∧cX m=(rf m).qa*10 ^ ((rf m).nd-(rf m).ndm)+r∧((rf m).tr=true↔r≠0)
 dig:(rf m).dig=false→∀ c∈m,c=46
theorem ve {m:List Nat} {p:Bool} (h:ta m p):Za m p:=by
 induction h with
 | nil=>exact⟨rfl,rfl,(fun h=>by cases h),fun _=>rfl,by decide,rfl,by decide,by decide,by decide,fun h=>absurd rfl h,fun _=>rfl,⟨0,by decide,rfl,by decide⟩,fun _ c h=>by cases h⟩
 | @dot m hm ih=>
  obtain⟨a1,a2,a3,a4,a5,a6,a7,a8,a9,Wm,Wl,a12,a13⟩:=ih;have e:rf (m++[46])={ rf m with dot:=true,dp:=(rf m).nd }:=by rw[A8];rfl
  have ed:cX (m++[46])=cX m:=by rw[ja];rfl
  have ef:lQ (m++[46])=(0,true):=by rw[zd];rfl
  refine⟨?_,?_,?_,?_,?_,?_,?_,?_,?_,?_,?_,?_,?_⟩<;>simp only[e,ed,ef,aM,List.length_cons,List.length_nil]<;>first|omega|exact a6|exact a9|exact Wm|exact Wl|exact a12|skip
  ·intro _;trivial
  ·intro h c hc
   rcases bj.1 hc with h1|h1
   ·exact a13 h c h1
   ·simpa using h1
 | @dig m p c hm hc ih=>
  obtain⟨a1,a2,a3,a4,a5,a6,a7,a8,a9,Wm,Wl,a12,a13⟩:=ih;obtain⟨c1,c2⟩:=hc;have yW:c≠46:=by omega
  have ed:cX (m++[c])=cX m*10+(c-48):=by rw[ja,aJ yW]
  have ef:lQ (m++[c])=if p then ((lQ m).1+1,true) else lQ m:=by rw[zd,aJ yW,a2]
  have e0:rf (m++[c])=oC (rf m) c:=A8 m c;unfold oC at e0;rw[aJ yW] at e0;have hf1:(lQ (m++[c])).2=p:=by rw[ef];cases p<;>simp[a2]
  have hf2:p=true→(lQ (m++[c])).1=(lQ m).1+1:=by intro h;rw[ef,h];rfl
  have hf3:p=false→(lQ (m++[c])).1=0:=by intro h;rw[ef,h];exact a4 h
  have Yl:(lQ (m++[c])).1≤m.length+1:=by
   cases p
   ·rw[hf3 rfl];omega
   ·rw[hf2 rfl];omega
  have hlen:(m++[c]).length=m.length+1:=by simp
  obtain⟨r,r1,r2,r3⟩:=a12
  by_cases hz:c=48∧(rf m).nd=0
  ·rw[aQ hz] at e0;have hm0:(rf m).ndm=0:=by rw[a6,hz.2];rfl
   rw[hm0] at a9;refine⟨by rw[e0];exact a1,hf1,?_,hf3,?_,by rw[e0];exact a6,?_,by rw[hlen];exact Yl,?_,?_,?_,?_,?_⟩
   ·intro h;rw[e0,hf2 h];simp only;rw[a3 h];omega
   ·rw[e0,hlen];simp only;omega
   ·rw[e0,hlen];simp only;omega
   ·rw[e0];simp only;rw[hm0];exact a9
   ·rw[e0];simp only;intro h;exact absurd hz.2 h
   ·rw[ed];intro _;rw[Wl hz.2,hz.1]
   ·rw[e0,ed];simp only;rw[hz.2,hm0] at r1 r2 ⊢;simp only[dZ,Nat.pow_zero,bB,Nat.zero_sub] at r1 r2 ⊢;have hr:r=0:=by omega
    subst hr;exact⟨0,by omega,by rw[Wl hz.2,hz.1];simp at a9;omega,r3⟩
   ·rw[e0];intro h;cases h
  ·rw[aJ hz] at e0
   by_cases hs:(rf m).ndm<19
   ·rw[aQ hs] at e0;have hnn:(rf m).ndm=(rf m).nd:=by omega
    rw[hnn,dZ,Nat.pow_zero] at r1;have hr:r=0:=by omega
    subst hr;rw[hnn,dZ,Nat.pow_zero,bB,Nat.add_zero] at r2
    have hlow:10 ^ (rf m).ndm≤(rf m).qa*10+(c-48):=by
     rcases cV (rf m).nd with h|h
     ·rw[hnn,h,Nat.pow_zero];have:c≠48:=fun e=>hz ⟨e,h⟩
      omega
     ·have:=Wm (by omega);obtain⟨t,ht⟩:∃ t,(rf m).ndm=t+1:=⟨(rf m).ndm-1,by omega⟩;rw[ht] at this ⊢;rw[cW] at this;rw[Nat.pow_succ];omega
    refine⟨by rw[e0];exact a1,hf1,?_,hf3,?_,?_,?_,by rw[hlen];exact Yl,?_,?_,?_,?_,?_⟩
    ·intro h;rw[e0,hf2 h];simp only;rw[a3 h];omega
    ·rw[e0,hlen];simp only;omega
    ·rw[e0];simp only;omega
    ·rw[e0,hlen];simp only;omega
    ·rw[e0];simp only;rw[Nat.pow_succ];omega
    ·rw[e0];simp only;intro _;rw[cW];exact hlow
    ·rw[e0];simp only;intro h;omega
    ·rw[e0,ed];simp only;rw[hnn,dZ,Nat.pow_zero,bB];exact⟨0,by omega,by omega,r3⟩
    ·rw[e0];intro h;cases h
   ·rw[aJ hs] at e0;refine⟨by rw[e0];exact a1,hf1,?_,hf3,?_,?_,?_,by rw[hlen];exact Yl,by rw[e0];exact a9,?_,?_,?_,?_⟩
    ·intro h;rw[e0,hf2 h];simp only;rw[a3 h];omega
    ·rw[e0,hlen];simp only;omega
    ·rw[e0];simp only;omega
    ·rw[e0,hlen];simp only;omega
    ·rw[e0];simp only;intro _;exact Wm (by omega)
    ·rw[e0];simp only;intro h;omega
    ·rw[e0,ed];simp only;have hge:(rf m).ndm≤(rf m).nd:=by omega
     refine⟨r*10+(c-48),?_,?_,?_⟩
     ·rw[Nat.succ_sub hge,Nat.pow_succ];omega
     ·rw[Nat.succ_sub hge,Nat.pow_succ,r2,bS,aA];omega
     ·simp only[jL,bne_iff_ne,ne_eq];rw[r3];constructor
      ·rintro(h|h)<;>omega
      ·intro h
       by_cases h2:c=48
       ·left;omega
       ·exact .inr h2
    ·rw[e0];intro h;cases h
theorem tE {m:List Nat} {p:Bool} (h:ta m p):∀ k,∃ q,ta (m.take k) q∧(q=true→p=true):=by
 induction h with
 | nil=>intro k;exact⟨false,by simpa using ta.nil,id⟩
 | @dig m p c hm hc ih=>
  intro k
  by_cases hk:k≤m.length
  ·obtain⟨q,hq,hp⟩:=ih k;exact⟨q,by rwa [dh hk],hp⟩
  ·exact⟨p,by rw[aE (by simp;omega)];exact .dig hm hc,id⟩
 | @dot m hm ih=>
  intro k
  by_cases hk:k≤m.length
  ·obtain⟨q,hq,hp⟩:=ih k;exact⟨q,by rwa [dh hk],fun _=>rfl⟩
  ·exact⟨true,by rw[aE (by simp;omega)];exact .dot hm,id⟩
theorem tF {m:List Nat} {p:Bool} (h:ta m p):∀ k,k<m.length→∀ q,ta (m.take k) q→dX (m.getD k 0)∨(m.getD k 0=46∧q=false):=by
 induction h with
 | nil=>intro k hk;simp at hk
 | @dig m p c hm hc ih=>
  intro k hk q hq;simp at hk
  by_cases h2:k<m.length
  ·rw[dh (by omega)] at hq;rw[az,b8 h2,←az];exact ih k h2 q hq
  ·have:k=m.length:=by omega
   subst this
   left;simpa[az] using hc
 | @dot m hm ih=>
  intro k hk q hq;simp at hk
  by_cases h2:k<m.length
  ·rw[dh (by omega)] at hq;rw[az,b8 h2,←az];exact ih k h2 q hq
  ·have:k=m.length:=by omega
   subst this
   right
   rw[List.take_left'  rfl] at hq;refine⟨by simp[az],?_⟩;have h1:=(ve hm).dot;have h3:=(ve hq).dot;rw[h1] at h3;exact h3.symm
theorem mr (d j:Nat) (q:Int):cN (d*10 ^ j) q*cC (q+j)=cN d (q+j)*cC q:=by
 unfold cN cC;generalize 2 ^ K74=T
 by_cases h1:0≤q
 ·rw[aQ h1,aQ h1,aQ (show 0≤q+j by omega),aQ (show 0≤q+j by omega),show(q+j).toNat=j+q.toNat by omega,aY];simp only[bB,dv,aA,aK,bH]
 ·rw[aJ h1,aJ h1]
  by_cases h2:0≤q+j
  ·rw[aQ h2,aQ h2];have:j=(q+j).toNat+(-q).toNat:=by omega
   conv=>lhs;rw[this,aY]
   simp only[bB,dv,aA,aK,bH]
  ·rw[aJ h2,aJ h2];have:(-q).toNat=j+(-(q+j)).toNat:=by omega
   rw[this,aY];simp only[bB,dv,aA,aK,bH]
theorem tq {d d':Nat} (q:Int) (h:d≤d'):cN d q≤cN d' q:=by unfold cN;exact aI _ (aI _ h)
def wq (m:List Nat) (E:Int):Int:=E-(lQ m).1
def rfX (m:List Nat) (E:Int):Int:=(if (rf m).dot then (rf m).dp else (rf m).nd)+E-(rf m).ndm
theorem Qr {m:List Nat} {p:Bool} (h:ta m p) (E:Int):rfX m E=wq m E+((rf m).nd-(rf m).ndm:Nat):=by
 have ok:=ve h;have h1:(rf m).ndm≤(rf m).nd:=by have:=ok.ndm;omega
 unfold rfX wq;rw[ok.dot];cases p
 ·have:=ok.PE rfl;simp;omega
 ·have:=ok.dp rfl;simp;omega
theorem Is {m:List Nat} {p:Bool} (h:ta m p) (hz:(rf m).qa=0):cX m=0:=by
 have ok:=ve h;refine ok.zero ?_
 rcases cV (rf m).nd with h1|h1
 ·exact h1
 ·have:=ok.low (by omega);have h2:0<10 ^ ((rf m).ndm-1):=bf (by decide);omega
theorem Ij (q:Int):eZ (cN 0 q) (cC q) 0:=by
 have:cN 0 q=0:=by unfold cN;simp
 rw[this];refine⟨.inl rfl,.inl ?_⟩;rw[rK,show V (0+1)=1 by decide];have:=gr q;omega
theorem Il {m:List Nat} {p:Bool} (h:ta m p) (E:Int) (ht:(rf m).tr=false) {u:Nat} (hu:eZ (cN (rf m).qa (rfX m E)) (cC (rfX m E)) u):eZ (cN (cX m) (wq m E)) (cC (wq m E)) u:=by
 obtain⟨r,r1,r2,r3⟩:=(ve h).num
 have hr:r=0:=by
  by_cases h0:r=0
  ·exact h0
  ·have:=r3.2 h0;rw[ht] at this;cases this
 rw[hr,Nat.add_zero] at r2;refine oG (gr _) (gr _) ?_ hu;rw[r2,Qr h E];exact(mr _ _ _).symm
theorem RG {N D u:Nat} (hD:0<D) (h:(V (cD-1)+V cD)*D<2*N) (hu:eZ N D u):cD≤u:=by
 rcases dD u cD with h2|h2
 ·have h1:2*N≤(V u+V (u+1))*D:=by rcases hu.hi with h|h<;>omega
  have hi:cD=9218868437227405312:=rfl;have h3:V u≤V (cD-1):=zN (by omega);have h4:V (u+1)≤V cD:=zN (by omega);have h5:(V u+V (u+1))*D≤(V (cD-1)+V cD)*D:=aI _ (by omega);omega
 ·exact h2
def OW:Nat:=311
def OT:Nat:=346
theorem OV:OW=311:=rfl
theorem OS:OT=346:=rfl
theorem OH:(V (cD-1)+V cD)*1<2*(10 ^ OW*2 ^ K74):=by decide +kernel
theorem Hm:2*(10 ^ 19*2 ^ K74)<10 ^ OT:=by decide +kernel
theorem KM {P:Nat→Prop}:∀ n,P n→∃ v,P v∧∀ u,u<v→¬P u:=by
 intro n
 induction n using Nat.strongRecOn with
 | ind n ih=>
  intro h
  by_cases h2:∃ m,m<n∧P m
  ·obtain⟨m,h3,h4⟩:=h2;exact ih m h3 h4
  ·exact⟨n,h,fun u hu hp=>h2 ⟨u,hu,hp⟩⟩
theorem zO (u:Nat):u≤V u:=by
 induction u with
 | zero=>exact bz _
 | succ u ih=>have:=sZ (show u<u+1 by omega);omega
theorem C9 (N D:Nat) (hD:0<D):∃ u,eZ N D u:=by
 obtain⟨v,hv,hmin⟩:=KM (P:=fun v=>2*N<(V v+V (v+1))*D) (2*N+1) (by
  have h1:=zO (2*N+1);have h2:(2*N+1)*1≤(V (2*N+1)+V (2*N+1+1))*D:=gK (by omega) hD
  show 2*N<_
  omega)
 rcases cV v with h|h
 ·subst h;exact⟨0,.inl rfl,.inl hv⟩
 ·have h1:=hmin (v-1) (by omega);rw[show v-1+1=v by omega] at h1
  rcases dY (dS h1) with h2|h2
  ·exact⟨v,.inr (.inl h2),.inl hv⟩
  ·rcases dK v with h3|h3
   ·exact⟨v,.inr (.inr ⟨h2,h3⟩),.inl hv⟩
   ·refine⟨v-1,?_,.inr ⟨by rw[show v-1+1=v by omega];exact h2.symm,by omega⟩⟩
    rcases cV (v-1) with h4|h4
    ·exact .inl h4
    ·right;left
     rw[←h2];refine bq ?_ hD;have a:=sZ (show v-1-1<v-1 by omega);have b:=sZ (show v-1<v by omega);omega
theorem Sq {d u:Nat} {q:Int} (h0:0<d) (hq:310<q) (hu:eZ (cN d q) (cC q) u):cD≤u:=by
 refine RG (gr _) ?_ hu;unfold cN cC;rw[aQ (by omega),aQ (by omega)];refine aP OH (bG 2 (aI _ ?_));have hk:=OV;have hkq:OW≤q.toNat:=by omega
 clear hk;have:10 ^ OW≤10 ^ q.toNat:=aS (by decide) hkq;exact aF this (rM _ h0)
theorem LH {d:Nat} {q:Int} (h0:d≤10 ^ 19) (hq:q < -345):eZ (cN d q) (cC q) 0:=by
 unfold cN cC;rw[aJ (by omega),aJ (by omega),bB];refine⟨.inl rfl,.inl ?_⟩;rw[rK,show V (0+1)=1 by decide,bD,dv];have hk:=OS;have hkq:OT≤(-q).toNat:=by omega
 clear hk;have h1:10 ^ OT≤10 ^ (-q).toNat:=aS (by decide) hkq;refine aP ?_ h1;exact cE (bG 2 (aI _ h0)) Hm
end fl
namespace rk
open Ieee fl
def fk (x:Nat):Int:=if x<9223372036854775808 then (x:Int) else -((x-9223372036854775808:Nat):Int)
structure Fl (x:Nat):Prop where
 lt:x<18446744073709551616
 n:x % 9223372036854775808≤cD
theorem Fl.cut {x:Nat} (h:Fl x):∃ s u,x=sgw s+u∧u≤cD∧fk x=sI s u:=by
 have h1:=h.lt;have h2:=h.n;have hi:cD=9218868437227405312:=rfl
 by_cases hx:x<9223372036854775808
 ·refine⟨false,x,by simp[sgw],by omega,?_⟩;unfold fk sI;simp[hx]
 ·refine⟨true,x-9223372036854775808,by simp[sgw];omega,by omega,?_⟩;unfold fk sI;simp[hx]
theorem BT {a b c d:Int} (h1:a<b↔c<d) (h2:b<a↔d<c):compare a b=compare c d:=by
 rcases dy a b with h|h|h
 ·rw[j8 h,j8 (h1.1 h)]
 ·subst h
  have:c=d:=by
   have n1:¬c<d:=fun hc=>by have:=h1.2 hc;omega
   have n2:¬d<c:=fun hc=>by have:=h2.2 hc;omega
   omega
  rw[this];simp
 ·rw[lr h,lr (h2.1 h)]
theorem FZ (s t:Bool) (u v:Nat):(sI s (V u)<sI t (V v)↔sI s u<sI t v):=by
 have a1:u<v→V u<V v:=fun h=>sZ h
 have a2:v<u→V v<V u:=fun h=>sZ h
 have a3:u=v→V u=V v:=fun h=>by rw[h]
 have z1:u=0→V u=0:=fun e=>by rw[e];exact rK
 have z2:v=0→V v=0:=fun e=>by rw[e];exact rK
 have g1:=zO u;have g2:=zO v
 cases s<;>cases t<;>simp[sI]<;>omega
theorem H9 (s t:Bool) (u v:Nat) (hu:u<cD) (hv:v<cD):Ieee.double.order (sgw s+u) (sgw t+v)=some (compare (sI s u) (sI t v)):=by rw[kA s t u v hu hv,BT (FZ s t u v) (FZ t s v u)]
theorem oD (s:Bool):Ieee.double.read (sgw s+cD)=.infinity s:=by cases s<;>decide +kernel
theorem H7 (s t:Bool) (v:Nat) (hv:v<cD):Ieee.double.order (sgw s+cD) (sgw t+v)=some (compare (sI s cD) (sI t v)):=by
 obtain⟨m,i,r⟩:=reads t v hv;unfold Format.order;rw[oD,r.read]
 show some (if s then Ordering.lt else .gt)=_
 cases s
 ·rw[lr]
  ·rfl
  ·cases t<;>simp[sI]<;>omega
 ·rw[j8]
  ·rfl
  ·cases t<;>simp[sI]<;>omega
theorem EO (s t:Bool) (v:Nat) (hv:v<cD):Ieee.double.order (sgw t+v) (sgw s+cD)=some (compare (sI t v) (sI s cD)):=by
 obtain⟨m,i,r⟩:=reads t v hv;unfold Format.order;rw[oD,r.read]
 show some (if s then Ordering.gt else .lt)=_
 cases s
 ·rw[j8]
  ·rfl
  ·cases t<;>simp[sI]<;>omega
 ·rw[lr]
  ·rfl
  ·cases t<;>simp[sI]<;>omega
theorem EN (s t:Bool):Ieee.double.order (sgw s+cD) (sgw t+cD)=some (compare (sI s cD) (sI t cD)):=by
 unfold Format.order;rw[oD,oD]
 cases s<;>cases t<;>decide
theorem yD {x y:Nat} (hx:Fl x) (hy:Fl y):FloatKind.f64.format.order x y=some (compare (fk x) (fk y)):=by
 obtain⟨s,u,rfl,hu,e1⟩:=hx.cut;obtain⟨t,v,rfl,hv,e2⟩:=hy.cut;rw[e1,e2]
 show Ieee.double.order _ _=_
 rcases dY hu with h1|h1
 ·rcases dY hv with h2|h2
  ·exact H9 s t u v h1 h2
  ·subst h2;exact EO t s u h1
 ·subst h1
  rcases dY hv with h2|h2
  ·exact H7 s t v h2
  ·subst h2;exact EN s t
theorem cmp_eq:∀ (a b:List UInt8),Lib.compareBytes a b=0↔a=b
 | [],[]=>by simp[Lib.compareBytes]
 | [],y::b=>by simp[Lib.compareBytes]
 | x::a,[]=>by simp[Lib.compareBytes]
 | x::a,y::b=>by
  have ih:=cmp_eq a b;unfold Lib.compareBytes;split
  ·rename_i h
   constructor
   ·intro h2;omega
   ·intro h2;simp at h2;rw[h2.1] at h;simp at h
  ·split
   ·rename_i h h1
    constructor
    ·intro h2;omega
    ·intro h2;simp at h2;rw[h2.1] at h1;simp at h1
   ·rename_i h1 h2
    rw[ih]
    have:x=y:=by
     apply UInt8.toNat.inj
     simp[gu] at h1 h2;omega
    simp[this]
theorem mQ:∀ (a b:List UInt8),Lib.compareBytes b a=- Lib.compareBytes a b
 | [],[]=>by simp[Lib.compareBytes]
 | [],y::b=>by simp[Lib.compareBytes]
 | x::a,[]=>by simp[Lib.compareBytes]
 | x::a,y::b=>by
  have ih:=mQ a b;unfold Lib.compareBytes
  by_cases h1:x<y
  ·have h2:¬y<x:=by simp[gu] at h1 ⊢;omega
   simp[h1,h2]
  ·by_cases h2:y<x
   ·simp[h1,h2]
   ·simp[h1,h2,ih]
theorem qC:∀ (a b c:List UInt8),Lib.compareBytes a b<0→Lib.compareBytes b c<0→Lib.compareBytes a c<0
 | [],[],c,h1,h2=>by simp[Lib.compareBytes] at h1
 | [],y::b,[],h1,h2=>by simp[Lib.compareBytes] at h2
 | [],y::b,z::c,h1,h2=>by simp[Lib.compareBytes]
 | x::a,[],c,h1,h2=>by simp[Lib.compareBytes] at h1
 | x::a,y::b,[],h1,h2=>by simp[Lib.compareBytes] at h2
 | x::a,y::b,z::c,h1,h2=>by
  have ih:=qC a b c;unfold Lib.compareBytes at h1 h2 ⊢
  by_cases e1:x<y
  ·by_cases e2:y<z
   ·have:x<z:=by simp[gu] at e1 e2 ⊢;omega
    simp[this]
   ·by_cases e3:z<y
    ·simp[e2,e3] at h2
    ·have:x<z:=by simp[gu] at e1 e2 e3 ⊢;omega
     simp[this]
  ·by_cases e4:y<x
   ·simp[e1,e4] at h1
   ·simp only[e1,e4,sG] at h1;have hxy:x=y:=by apply UInt8.toNat.inj;simp[gu] at e1 e4;omega
    subst hxy
    by_cases e2:x<z
    ·simp[e2]
    ·by_cases e3:z<x
     ·simp[e2,e3] at h2
     ·simp only[e2,e3,sG] at h2 ⊢;exact ih h1 h2
open fl
abbrev Mem:=ByteArray×Nat
def gN (a b:Mem):Int:=if fk a.2<fk b.2 then -1 else if fk b.2<fk a.2 then 1 else Lib.compareBytes a.1.data.toList b.1.data.toList
theorem C4 (a b:Mem):gN b a=- gN a b:=by
 unfold gN
 by_cases h1:fk a.2<fk b.2
 ·have h2:¬fk b.2<fk a.2:=by omega
  simp[h1,h2]
 ·by_cases h2:fk b.2<fk a.2
  ·simp[h1,h2]
  ·simp only[h1,h2,sG];exact mQ _ _
theorem wE {a b:Mem}:gN a b=0↔fk a.2=fk b.2∧a.1=b.1:=by
 unfold gN
 by_cases h1:fk a.2<fk b.2
 ·rw[aQ h1];constructor
  ·intro h;omega
  ·intro h;omega
 ·rw[aJ h1]
  by_cases h2:fk b.2<fk a.2
  ·rw[aQ h2];constructor
   ·intro h;omega
   ·intro h;omega
  ·rw[aJ h2,cmp_eq];constructor
   ·intro h;refine⟨by omega,?_⟩;have:a.1.data=b.1.data:=Array.ext' h
    cases ha:a.1;cases hb:b.1
    rw[ha,hb] at this;exact congrArg _ this
   ·intro h;rw[h.2]
theorem q9 {a b c:Mem} (h1:gN a b<0) (h2:gN b c<0):gN a c<0:=by
 unfold gN at *
 by_cases p1:fk a.2<fk b.2
 ·by_cases q1:fk b.2<fk c.2
  ·rw[aQ (by omega)];omega
  ·rw[aJ q1] at h2
   by_cases q2:fk c.2<fk b.2
   ·rw[aQ q2] at h2;omega
   ·rw[aQ (by omega)];omega
 ·rw[aJ p1] at h1
  by_cases p2:fk b.2<fk a.2
  ·rw[aQ p2] at h1;omega
  ·rw[aJ p2] at h1
   by_cases q1:fk b.2<fk c.2
   ·rw[aQ (by omega)];omega
   ·rw[aJ q1] at h2
    by_cases q2:fk c.2<fk b.2
    ·rw[aQ q2] at h2;omega
    ·rw[aJ q2] at h2;rw[aJ (by omega),aJ (by omega)];exact qC _ _ _ h1 h2
theorem qp (a:Mem):gN a a=0:=wE.2 ⟨rfl,rfl⟩
theorem NF {a b c:Mem} (h1:0≤gN a c) (h2:gN a b<0):0≤gN b c:=by
 rcases gI (gN b c) 0 with h|h
 ·have:=q9 h2 h;omega
 ·exact h
def j9 (l:List Mem):Prop:=l.Pairwise (fun a b=>gN a b<0)
def lbR (l:List Mem) (x:Mem):Nat:=(l.takeWhile (fun y=>decide (gN y x<0))).length
theorem Rw (l:List Mem) (x:Mem):lbR l x≤l.length:=by unfold lbR;exact(r9 _).length_le
theorem sF (y:Mem) (l:List Mem) (x:Mem):lbR (y::l) x=if gN y x<0 then lbR l x+1 else 0:=by
 unfold lbR;rw[tV]
 by_cases h:gN y x<0<;>simp[h]
theorem KN:∀ (l:List Mem) (x:Mem) (i:Nat),i≤l.length→(∀ p y,p<i→l[p]?=some y→gN y x<0)→(∀ p y,i≤p→l[p]?=some y→0≤gN y x)→i=lbR l x
 | [],x,i,h,_,_=>by simp[lbR] at h ⊢;exact h
 | y::l,x,0,h,h1,h2=>by have:=h2 0 y (aq _) rfl;rw[sF,aJ (by omega)]
 | y::l,x,i+1,h,h1,h2=>by have:=h1 0 y (by omega) rfl;rw[sF,aQ this,←KN l x i (by simp at h;omega) (fun p z hp hz=>h1 (p+1) z (by omega) hz) (fun p z hp hz=>h2 (p+1) z (by omega) hz)]
def qv (l:List Mem) (x:Mem):List Mem:=l.take (lbR l x)++x::l.drop (lbR l x)
theorem Al (y:Mem) (l:List Mem) (x:Mem):qv (y::l) x=if gN y x<0 then y::qv l x else x::y::l:=by
 unfold qv;rw[sF]
 by_cases h:gN y x<0
 ·rw[aQ h,aQ h];rfl
 ·rw[aJ h,aJ h];rfl
theorem qu:∀ (l:List Mem) (x:Mem),(qv l x).Perm (x::l)
 | [],x=>by simp[qv,lbR]
 | y::l,x=>by
  rw[Al];split
  ·exact((qu l x).cons y).trans (List.Perm.swap x y l)
  ·exact o0 _
theorem vx {l:List Mem} {x y:Mem}:y∈qv l x↔y=x∨y∈l:=by rw[(qu l x).mem_iff,bM]
theorem uF:∀ (l:List Mem) (x:Mem),j9 l→(∀ y∈l,gN y x≠0)→j9 (qv l x)
 | [],x,_,_=>by simp[qv,lbR,j9]
 | y::l,x,h,hn=>by
  have h2:=eX.1 h;rw[Al];split
  ·rename_i hy
   refine eX.2 ⟨fun z hz=>?_,uF l x h2.2 (fun z hz=>hn z (by simp[hz]))⟩
   rcases vx.1 hz with rfl|hz
   ·exact hy
   ·exact h2.1 z hz
  ·rename_i hy
   have h0:=hn y (by simp);have hxy:gN x y<0:=by rw[C4];omega
   refine eX.2 ⟨fun z hz=>?_,h⟩
   rcases bM.1 hz with rfl|hz
   ·exact hxy
   ·exact q9 hxy (h2.1 z hz)
structure DV (l:List Mem):Prop where
 r:j9 l
 n:(l.map (fun y=>y.1)).Nodup
 f:∀ y∈l,Fl y.2
 s:∀ y∈l,y.1.size≤1048576
theorem KO {l:List Mem} (h:j9 l) {x:Mem} (hx:x∈l):l[lbR l x]?=some x:=by
 induction l with
 | nil=>simp at hx
 | cons y l ih=>
  have h2:=eX.1 h;rw[sF]
  rcases bM.1 hx with rfl|hx
  ·rw[aJ (by rw[qp];omega)];rfl
  ·rw[aQ (h2.1 x hx)];exact ih h2.2 hx
theorem KZ {l:List Mem} (h:DV l) {x:Mem} (hn:∀ y∈l,y.1≠x.1) (hf:Fl x.2) (hs:x.1.size≤1048576):DV (qv l x):=by
 refine⟨uF l x h.r (fun y hy e=>hn y hy (wE.1 e).2),?_,fun y hy=>?_,fun y hy=>?_⟩
 ·rw[((qu l x).map _).nodup_iff,bP,bT];refine⟨fun hm=>?_,h.n⟩;obtain⟨y,hy,e⟩:=aV.1 hm;exact hn y hy e
 ·rcases vx.1 hy with rfl|hy
  ·exact hf
  ·exact h.f y hy
 ·rcases vx.1 hy with rfl|hy
  ·exact hs
  ·exact h.s y hy
end rk
namespace jw
open rk (Mem Fl gN qv DV j9)
theorem tA {α:Type} {lt:α→α→Prop} (Un:∀ a,¬lt a a) (asy:∀ a b,lt a b→¬lt b a):∀ (l m:List α),l.Pairwise lt→m.Pairwise lt→(∀ x,x∈l↔x∈m)→l=m
 | [],[],_,_,_=>rfl
 | [],y::m,_,_,h=>by have:=(h y).2 (by simp);simp at this
 | x::l,[],_,_,h=>by have:=(h x).1 (by simp);simp at this
 | x::l,y::m,hl,hm,h=>by
  have hl2:=eX.1 hl;have hm2:=eX.1 hm
  have hxy:x=y:=by
   rcases bM.1 ((h x).1 (by simp)) with e|e
   ·exact e
   ·rcases bM.1 ((h y).2 (by simp)) with e2|e2
    ·exact e2.symm
    ·exact absurd (hl2.1 y e2) (asy _ _ (hm2.1 x e))
  subst hxy;rw[tA Un asy l m hl2.2 hm2.2 (fun z=>?_)];constructor
  ·intro hz
   rcases bM.1 ((h z).1 (by simp[hz])) with e|e
   ·subst e;exact absurd (hl2.1 z hz) (Un z)
   ·exact e
  ·intro hz
   rcases bM.1 ((h z).2 (by simp[hz])) with e|e
   ·subst e;exact absurd (hm2.1 z hz) (Un z)
   ·exact e
structure cG where
 kind:Int
 text:ByteArray
 items:List ByteArray
 bL:List (ByteArray×ByteArray)
 bI:List Mem
structure gn where
 key:ByteArray
 val:cG
 dl:Int
def kL (p:cG):List ByteArray:=(if p.kind=4 then p.items else [])++p.bL.map (fun x=>x.1)++p.bI.map (fun x=>x.1)
def zk (p:cG):List ByteArray:=p.text::p.items++p.bL.flatMap (fun x=>[x.1,x.2])++p.bI.map (fun x=>x.1)
structure ti (p:cG):Prop where
 hk:1≤p.kind∧p.kind≤5
 ht:p.kind=1∨p.text.size=0
 hi:p.kind=2∨p.kind=4∨p.items=[]
 hp:p.kind=3∨p.bL=[]
 hr:p.kind=5∨p.bI=[]
structure OkP (p:cG):Prop where
 kind:ti p
 once:(kL p).Nodup
 num:∀ x∈p.bI,x.2 % 9223372036854775808≤fl.cD
 long:∀ s∈zk p,s.size≤1048576
 few:p.items.length≤1048576∧p.bL.length≤1048576∧p.bI.length≤1048576
def lp (p:cG):Prop:=p.kind≠1∧p.items=[]∧p.bL=[]∧p.bI=[]
def tlt (a b:ByteArray):Prop:=Lib.compareBytes a.data.toList b.data.toList<0
theorem uT (a:ByteArray):¬tlt a a:=by unfold tlt;rw[(rk.cmp_eq _ _).2 rfl];omega
theorem AT (a b:ByteArray) (h:tlt a b):¬tlt b a:=by unfold tlt at *;rw[rk.mQ];omega
structure jV (p q:cG):Prop where
 kind:q.kind=p.kind
 text:q.text=p.text
 items:if p.kind=4 then q.items.Pairwise tlt∧∀ x,x∈q.items↔x∈p.items else q.items=p.items
 bL:q.bL.Pairwise (fun a b=>tlt a.1 b.1)∧∀ x,x∈q.bL↔x∈p.bL
 bI:j9 q.bI∧∀ x,x∈q.bI↔x∈p.bI
theorem jV.one {p q q':cG} (h:jV p q) (h':jV p q'):q=q':=by
 obtain⟨k,t,i,pp,r⟩:=q;obtain⟨k',t',i',pp',r'⟩:=q';have e1:k=k':=h.kind.trans h'.kind.symm;have e2:t=t':=h.text.trans h'.text.symm
 have e3:i=i':=by
  have a:=h.items;have b:=h'.items
  by_cases hk:p.kind=4
  ·rw[aQ hk] at a b;exact tA uT AT _ _ a.1 b.1 (fun x=>(a.2 x).trans (b.2 x).symm)
  ·rw[aJ hk] at a b;exact a.trans b.symm
 have e4:pp=pp':=tA (fun a=>uT a.1) (fun a b=>AT a.1 b.1) _ _ h.bL.1 h'.bL.1 (fun x=>(h.bL.2 x).trans (h'.bL.2 x).symm);have e5:r=r':=tA (lt:=fun a b=>gN a b<0) (fun a=>by rw[rk.qp];omega) (fun a b hab=>by rw[rk.C4];omega) _ _ h.bI.1 h'.bI.1 (fun x=>(h.bI.2 x).trans (h'.bI.2 x).symm);rw[e1,e2,e3,e4,e5]
def eV (pr:Nat→ByteArray) (q:cG):List Words:=q.items.map (fun x=>[x])++q.bL.map (fun x=>[x.1,x.2])++q.bI.map (fun x=>[pr x.2,x.1])
def iS (k:Int):ByteArray:=if k=1 then ⟨#[83,69,84]⟩ else if k=2 then ⟨#[82,80,85,83,72]⟩ else if k=3 then ⟨#[72,83,69,84]⟩ else if k=4 then ⟨#[83,65,68,68]⟩ else ⟨#[90,65,68,68]⟩
def od:ByteArray:=⟨#[80,69,88,80,73,82,69,65,84]⟩
def vG (pr:Nat→ByteArray) (tx:Int→ByteArray) (key:ByteArray) (dl:Int) (q:cG):List Words:=(if q.kind=1 then [[iS 1,key,q.text]] else parts (iS q.kind) key (eV pr q).length (eV pr q))++(if 0<dl then [[od,key,tx dl]] else [])
structure s7 (prev:Option ByteArray) (x:gn):Prop where
 ok:OkP x.val
 ne:¬lp x.val
 key:x.key.size≤1048576
 dl:0≤x.dl∧x.dl≤9007199254740992
 up:∀ k,prev=some k→tlt k x.key
inductive nK (pr:Nat→ByteArray) (tx:Int→ByteArray):Option ByteArray→List gn→Option (List Words)→Prop
 | nil (prev:Option ByteArray):nK pr tx prev [] (some [])
 | bad (prev:Option ByteArray) (x:gn) (l:List gn) (h:¬s7 prev x):nK pr tx prev (x::l) none
 | cons (prev:Option ByteArray) (x:gn) (l:List gn) (q:cG) (r:Option (List Words)) (h:s7 prev x) (hq:jV x.val q) (hr:nK pr tx (some x.key) l r):nK pr tx prev (x::l) (r.map (fun e=>vG pr tx x.key x.dl q++e))
theorem nK.one {pr:Nat→ByteArray} {tx:Int→ByteArray} {prev:Option ByteArray} {l:List gn} {a b:Option (List Words)} (h:nK pr tx prev l a) (h':nK pr tx prev l b):a=b:=by
 induction h generalizing b with
 | nil=>cases h';rfl
 | bad prev x l h=>
  cases h' with
  | bad _ _ _ h2=>rfl
  | cons _ _ _ q r h2 hq hr=>exact absurd h2 h
 | cons prev x l q r h hq hr ih=>
  cases h' with
  | bad _ _ _ h2=>exact absurd h h2
  | cons _ _ _ q2 r2 h2 hq2 hr2=>rw[ih hr2,hq.one hq2]
open rk (Mem Fl gN qv lbR DV j9)
theorem Hd {a b c:ByteArray} (h1:tlt a b) (h2:tlt b c):tlt a c:=rk.qC _ _ _ h1 h2
theorem data_inj {a b:ByteArray} (h:a.data.toList=b.data.toList):a=b:=by
 cases a;cases b
 exact congrArg _ (Array.ext' h)
theorem FQ (a b:ByteArray):tlt a b∨a=b∨tlt b a:=by
 unfold tlt
 rcases dy (Lib.compareBytes a.data.toList b.data.toList) 0 with h|h|h
 ·exact .inl h
 ·exact .inr (.inl (data_inj ((rk.cmp_eq _ _).1 h)))
 ·right;right;rw[rk.mQ];omega
instance (a b:ByteArray):Decidable (tlt a b):=by unfold tlt;infer_instance
variable {α:Type}
def lbK (f:α→ByteArray) (l:List α) (m:ByteArray):Nat:=(l.takeWhile (fun y=>decide (tlt (f y) m))).length
def rp (f:α→ByteArray) (l:List α) (x:α):List α:=l.take (lbK f l (f x))++x::l.drop (lbK f l (f x))
def Cc (f:α→ByteArray) (l:List α):Prop:=l.Pairwise (fun a b=>tlt (f a) (f b))
theorem yM (f:α→ByteArray) (y:α) (l:List α) (m:ByteArray):lbK f (y::l) m=if tlt (f y) m then lbK f l m+1 else 0:=by
 unfold lbK;rw[tV]
 by_cases h:tlt (f y) m<;>simp[h]
theorem E5 (f:α→ByteArray) (l:List α) (m:ByteArray):lbK f l m≤l.length:=(r9 _).length_le
theorem yL (f:α→ByteArray):∀ (l:List α) (m:ByteArray) (i:Nat),i≤l.length→(∀ p y,p<i→l[p]?=some y→tlt (f y) m)→(∀ y,l[i]?=some y→¬tlt (f y) m)→lbK f l m=i
 | [],m,i,h,_,_=>by simp[lbK] at h ⊢;omega
 | y::l,m,0,h,h1,h2=>by rw[yM,aJ (h2 y rfl)]
 | y::l,m,i+1,h,h1,h2=>by rw[yM,aQ (h1 0 y (by omega) rfl),yL f l m i (by simp at h;omega) (fun p z hp hz=>h1 (p+1) z (by omega) (by simpa using hz)) (fun z hz=>h2 z (by simpa using hz))]
theorem Am (f:α→ByteArray) (y:α) (l:List α) (x:α):rp f (y::l) x=if tlt (f y) (f x) then y::rp f l x else x::y::l:=by
 unfold rp;rw[yM]
 by_cases h:tlt (f y) (f x)
 ·rw[aQ h,aQ h];rfl
 ·rw[aJ h,aJ h];rfl
theorem tI (f:α→ByteArray):∀ (l:List α) (x:α),(rp f l x).Perm (x::l)
 | [],x=>by simp[rp,lbK]
 | y::l,x=>by
  rw[Am];split
  ·exact((tI f l x).cons y).trans (List.Perm.swap x y l)
  ·exact o0 _
theorem yP (f:α→ByteArray):∀ (l:List α) (x:α),Cc f l→(∀ y∈l,f y≠f x)→Cc f (rp f l x)
 | [],x,_,_=>by simp[rp,lbK,Cc]
 | y::l,x,h,hn=>by
  have h2:=eX.1 h;rw[Am];split
  ·rename_i hy
   refine eX.2 ⟨fun z hz=>?_,yP f l x h2.2 (fun z hz=>hn z (by simp[hz]))⟩
   rcases bM.1 ((tI f l x).mem_iff.1 hz) with rfl|hz
   ·exact hy
   ·exact h2.1 z hz
  ·rename_i hy
   have hxy:tlt (f x) (f y):=by
    rcases FQ (f y) (f x) with h3|h3|h3
    ·exact absurd h3 hy
    ·exact absurd h3 (hn y (by simp))
    ·exact h3
   refine eX.2 ⟨fun z hz=>?_,h⟩
   rcases bM.1 hz with rfl|hz
   ·exact hxy
   ·exact Hd hxy (h2.1 z hz)
def vy:List Mem→List Mem→List Mem
 | acc,[]=>acc
 | acc,x::l=>vy (qv acc x) l
theorem ud:∀ (l acc:List Mem),DV acc→((acc++l).map (fun x=>x.1)).Nodup→(∀ x∈l,Fl x.2)→(∀ x∈l,x.1.size≤1048576)→DV (vy acc l)∧(vy acc l).Perm (acc++l)
 | [],acc,h,_,_,_=>by simp[vy,h]
 | x::l,acc,h,hn,hf,hs=>by
  have hn2:∀ y∈acc,y.1≠x.1:=by intro y hy e;rw[aZ,bQ] at hn;exact hn.2.2 y.1 (aV.2 ⟨y,hy,rfl⟩) x.1 (by simp) e
  have hp:(qv acc x++l).Perm (acc++x::l):=((rk.qu acc x).append_right l).trans (by rw[List.cons_append];exact jh.symm)
  obtain⟨a,b⟩:=ud l (qv acc x) (rk.KZ h hn2 (hf x (by simp)) (hs x (by simp))) ((hp.map _).nodup_iff.2 hn) (fun y hy=>hf y (by simp[hy])) (fun y hy=>hs y (by simp[hy]));exact⟨a,b.trans hp⟩
theorem JV:DV []:=⟨List.Pairwise.nil,by simp,by simp,by simp⟩
end jw
end Go.Proofs.YthpdlidbaojlbaaGreatDoor
