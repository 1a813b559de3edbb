/- The model's float operations on whole numbers, exact ones: p -/
import Derived.Test.YthpdlidbaojlbaaGreatDoorQ05
set_option linter.unusedVariables false
set_option linter.unusedSimpArgs false
set_option maxHeartbeats 4000000
namespace Go.Proofs.YthpdlidbaojlbaaGreatDoor
namespace fl
theorem vf {n d n' d':Nat} (hd:0<d) (hd':0<d') (h:n*d'=n'*d):rd n d=rd n' d':=by
 have hq:n / d=n' / d':=by have h1:n / d=n*d' / (d*d'):=(r8 n d hd').symm;have h2:n' / d'=n'*d / (d'*d):=(r8 n' d' hd).symm;rw[h1,h2,h,aK d' d]
 have hr:n % d*d'=n' % d'*d:=by
  have h1:=cY n d;have h2:=cY n' d';have h3:n*d'=d*(n / d)*d'+n % d*d':=by rw[←bS,h1]
  have h4:n'*d=d'*(n' / d')*d+n' % d'*d:=by rw[←bS,h2]
  rw[←hq] at h4;have h5:d*(n / d)*d'=d'*(n / d)*d:=by simp only[aA,aK,bH]
  omega
 unfold rd;rw[←hq];have l:∀ a b:Nat,a<b↔a*(d*d')<b*(d*d'):=fun a b=>(kf (df hd hd')).symm
 have e1:d<2*(n % d)↔d'<2*(n' % d'):=by rw[←kf hd' (b:=d),←kf hd (b:=d'),aA,hr,aK d' d,aA]
 have e2:2*(n % d)=d↔2*(n' % d')=d':=by
  constructor
  ·intro h;refine fp hd ?_;rw[aA,←hr,←aA,h,aK]
  ·intro h;refine fp hd' ?_;rw[aA,hr,←aA,h,aK]
 simp only[e1,e2]
def unr (n d:Nat):Nat:=2*(n / d)+(if n % d=0 then 0 else 1)
theorem vI (n d:Nat) (hd:0<d):n / (2*d)=n / d / 2∧n % (2*d)=n / d % 2*d+n % d:=by
 have h1:n / (2*d)=n / d / 2:=by rw[aK,l6]
 refine⟨h1,?_⟩;have h2:=cY n (2*d);have h3:=cY n d;have h4:=cY (n / d) 2;rw[h1] at h2
 have h5:d*(n / d)=2*d*(n / d / 2)+n / d % 2*d:=by
  conv=>lhs;rw[←h4]
  rw[dF,aK (n / d % 2) d];simp only[aA,aK,bH]
 omega
theorem TT (n d:Nat) (hd:0<d):(unr n d+1+unr n d / 4 % 2) / 4=rd n (2*d):=by
 obtain⟨h1,h2⟩:=vI n d hd;have h3:=dq n hd;unfold rd unr;rw[h1,h2];generalize n / d=q at *
 generalize n % d=r at *
 rcases dK q with h|h
 ·rw[h,fO,bD];rw[aJ (show ¬(2*d<2*r∨2*r=2*d∧q / 2 % 2=1) by omega)]
  split<;>omega
 ·rw[h,dv]
  by_cases hr:r=0
  ·rw[aQ hr,hr]
   by_cases ho:q / 2 % 2=1
   ·rw[aQ (by omega)];omega
   ·rw[aJ (by omega)];omega
  ·rw[aJ hr,aQ (by omega)];omega
theorem Jv (n d:Nat) (hd:0<d):unr n d / 2 ||| unr n d % 2=unr n (2*d):=by
 obtain⟨h1,h2⟩:=vI n d hd;have h3:=dq n hd;rw[uB _ _ (by omega)];unfold unr;rw[h1,h2];generalize n / d=q at *
 generalize n % d=r at *
 have e1:(2*q+if r=0 then 0 else 1) / 2=q:=by split<;>omega
 have e2:(2*q+if r=0 then 0 else 1) % 2=if r=0 then 0 else 1:=by split<;>omega
 rw[e1,e2]
 rcases dK q with h|h
 ·rw[h,fO,bD]
  by_cases hr:r=0<;>simp[hr]
 ·rw[h,dv,aQ (.inl rfl),aJ (by omega)]
theorem Jw (n d k:Nat):2*k≤unr n d↔k≤n / d:=by unfold unr;split<;>omega
def K74:Nat:=1074
theorem nM:K74=1074:=rfl
def cN (d:Nat) (p:Int):Nat:=d*(if 0≤p then 10 ^ p.toNat else 1)*2 ^ K74
def cC (p:Int):Nat:=if 0≤p then 1 else 10 ^ (-p).toNat
theorem gr (p:Int):0<cC p:=by unfold cC;split<;>first|decide|exact bf (by decide)
theorem FD (p:Int):0<PM p:=by
 unfold PM;refine df ?_ ?_
 ·split<;>first|decide|exact bf (by decide)
 ·split<;>first|decide|exact bf (by decide)
theorem CD (d b:Nat) (p e s:Int) (k ee:Nat) (hb:b≤64) (hs:s=-(e-(64-b)+lpI p+3)) (hs8:s=8+k) (hee:(ee:Int)=1074-e):
  d*2 ^ (64-b)*PA p*(cC p*2 ^ ee)=cN d p*(2*(PM p*2 ^ k)):=by
 unfold PA PM cC cN;have h74:=nM;have hx:∃ n q:Nat,(if 0≤p then 10 ^ p.toNat else 1)=n∧(if 0≤p then 1 else 10 ^ (-p).toNat)=q:=⟨_,_,rfl,rfl⟩;obtain⟨n,q,h1,h2⟩:=hx;rw[h1,h2]
 by_cases hl:lpI p+10<0
 ·rw[aQ hl,aQ hl];obtain⟨g,hg⟩:∃ g:Nat,-(lpI p+10)=g:=⟨(-(lpI p+10)).toNat,by omega⟩;rw[hg,Int.toNat_natCast];have e1:d*2 ^ (64-b)*(n*2 ^ g)*(q*2 ^ ee)=d*n*q*(2 ^ (64-b)*2 ^ g*2 ^ ee):=by simp only[aA,aK,bH]
  have e2:d*n*2 ^ K74*(2*(q*1*2 ^ k))=d*n*q*(2 ^ K74*2 ^ 1*2 ^ k):=by rw[ke,bB];simp only[aA,aK,bH]
  rw[e1,e2,←aY,←aY,←aY,←aY]
  congr 2
  omega
 ·rw[aJ hl,aJ hl];obtain⟨g,hg⟩:∃ g:Nat,lpI p+10=g:=⟨(lpI p+10).toNat,by omega⟩;rw[hg,Int.toNat_natCast];have e1:d*2 ^ (64-b)*(n*1)*(q*2 ^ ee)=d*n*q*(2 ^ (64-b)*2 ^ ee):=by rw[bB];simp only[aA,aK,bH]
  have e2:d*n*2 ^ K74*(2*(q*2 ^ g*2 ^ k))=d*n*q*(2 ^ K74*2 ^ 1*2 ^ g*2 ^ k):=by rw[ke];simp only[aA,aK,bH]
  rw[e1,e2,←aY,←aY,←aY,←aY]
  congr 2
  omega
def Bc (p:Int):Bool:=decide (PM p≤PA p*1024) && decide (PA p*512*1048576≤PM p*1048575)
def qo:Nat→Int→Bool
 | 0,_=>true
 | n+1,p=>Bc p && qo n (p+1)
theorem vg:∀ {n:Nat} {p:Int},qo n p=true→∀ i:Nat,i<n→Bc (p+i)=true
 | n+1,p,h,0,_=>by simp only[qo,cQ] at h;simpa using h.1
 | n+1,p,h,i+1,hi=>by
  simp only[qo,cQ] at h;have:=vg h.2 i (by omega)
  rwa [show p+1+(i:Int)=p+((i+1:Nat):Int) by omega] at this
theorem J0:qo 656 (-345)=true:=by decide +kernel
theorem CN (p:Int) (h1:-345≤p) (h2:p≤310):PM p≤PA p*1024∧PA p*512*1048576≤PM p*1048575:=by have:=vg J0 (p+345).toNat (by omega);rw[show(-345:Int)+((p+345).toNat:Int)=p by omega] at this;simpa[Bc] using this
structure FC (d:Nat) (p:Int) (m:Nat) (e2:Int):Prop where
 le:e2≤1074
 lt:m<2*B
 sub:m<B→e2=1074
 Ug:eZ (cN d p) (cC p) ((1074-e2).toNat*B+m)
theorem P7 {Ap Mp D E:Nat} (e1:E≤18446744073709551616*Ap) (r2:Ap*512*1048576≤Mp*1048575) (e2:Mp*1≤D):E*1048576≤36028797018963968*D*1048575:=by
 have h1:E*1048576≤36028797018963968*(Ap*512*1048576):=by refine aF (aI 1048576 e1) (Nat.le_of_eq ?_);rw[show(18446744073709551616:Nat)=36028797018963968*512 by decide,aA 36028797018963968,aA 36028797018963968,aK 512 Ap]
 have h2:36028797018963968*(Ap*512*1048576)≤36028797018963968*(Mp*1048575):=bG _ r2
 have h3:36028797018963968*(Mp*1048575)≤36028797018963968*D*1048575:=by rw[aA 36028797018963968 D];exact bG _ (aI _ (by rwa [bB] at e2))
 exact aF h1 (aF h2 h3)
theorem Rp {Ap Mp E:Nat} (e1:9223372036854775808*Ap≤E) (r1:Mp≤Ap*1024):9007199254740992*Mp≤E:=by omega
theorem Hx {d b:Nat} {p e s:Int} {u:Nat} (hb1:2 ^ b≤2*d) (hb2:d<2 ^ b) (hb0:1≤b) (hb:b≤64) (h1:-345≤p) (h2:p≤310)
  (he:e=if 1074≤53-b-lpI p then 1074 else 53-b-lpI p) (hs:s=-(e-(64-b)+lpI p+3)) (k:Nat) (hk:s=8+k)
  (hu:u=unr (d*2 ^ (64-b)*PA p) (PM p*2 ^ k)):
  (36028797018963966≤u→FC d p ((((u / 2)||| (u % 2))+1+((u / 2)||| (u % 2)) / 4 % 2) / 4) (e-1))∧(u<36028797018963966→FC d p ((u+1+u / 4 % 2) / 4) e):=by
 obtain⟨r1,r2⟩:=CN p h1 h2;have hM:=FD p;have hK:0<2 ^ k:=bf (by decide);have hD:0<PM p*2 ^ k:=df hM hK;obtain⟨ee,hee⟩:∃ ee:Nat,(ee:Int)=1074-e:=⟨(1074-e).toNat,by split at he<;>omega⟩;have hsc:=CD d b p e s k ee hb hs hk hee;have Sa:=gr p;have hE0:0<2 ^ ee:=bf (by decide)
 have hx1:9223372036854775808≤d*2 ^ (64-b):=by have e1:2 ^ b*2 ^ (64-b)≤2*d*2 ^ (64-b):=aI _ hb1;rw[←aY,eB hb,aA] at e1;omega
 have hx2:d*2 ^ (64-b)<18446744073709551616:=by have e1:d*2 ^ (64-b)<2 ^ b*2 ^ (64-b):=bq hb2 (bf (by decide));rw[←aY,eB hb] at e1;omega
 generalize d*2 ^ (64-b)=x at *
 have hk0:k=0→2 ^ k=1:=fun h=>by rw[h]
 have hsub:k=0∨ee=0:=by split at he<;>omega
 generalize 2 ^ k=K at *
 generalize PA p=Ap at *
 generalize PM p=Mp at *
 have hup:x*Ap*1048576≤36028797018963968*(Mp*K)*1048575:=by have e1:x*Ap≤18446744073709551616*Ap:=aI _ (bW hx2);exact P7 e1 r2 (bG _ hK)
 have hlo:k=0→9007199254740992*(Mp*K)≤x*Ap:=by intro h;have e1:9223372036854775808*Ap≤x*Ap:=aI _ hx1;rw[hk0 h,bB];exact Rp e1 r1
 generalize x*Ap=E at *
 generalize Mp*K=D at *
 clear r1 r2 hM hK hx1 hx2 hk0;have UA:rd E (2*D)=rd (cN d p) (cC p*2 ^ ee):=vf (by omega) (df Sa hE0) (by rw[hsc])
 have XP:rd E (2*(2*D))=rd (cN d p) (cC p*2 ^ (ee+1)):=by refine vf (by omega) (df Sa (bf (by decide))) ?_;rw[Nat.pow_succ,←aA (cC p),←aA E,hsc,aA (cN d p),aK (2*D) 2]
 have q1:=cY E D;have q2:=dq E hD
 have abJ:E / D<36028797018963968-17179869184:=by rw[gw hD];omega
 have Of:B=4503599627370496:=rfl;constructor
 ·intro hge
  have hw:18014398509481983≤E / D:=by have:=(Jw E D 18014398509481983).1 (by rw[←hu];exact hge);exact this
  subst hu;rw[Jv E D hD,TT E (2*D) (by omega)];obtain⟨v1,v2⟩:=vI E D hD;obtain⟨v3,v4⟩:=vI E (2*D) (by omega)
  have hmd:rd E (2*(2*D))≤2*B-1:=by unfold rd;rw[v3,v1];split<;>omega
  have D8:B≤rd E (2*(2*D)):=by
   rcases dD (E / D) 18014398509481984 with h|h
   ·have e0:E / D=18014398509481983:=by omega
    unfold rd;rw[v3,v4,v2,v1,e0];rw[aQ (by left;omega)];decide
   ·unfold rd;rw[v3,v1];omega
  refine⟨by omega,by omega,by omega,?_⟩;have Yn:(1074-(e-1)).toNat=ee+1:=by omega
  rw[Yn]
  rcases dD (E / D) 18014398509481984 with h|h
  ·have e0:E / D=18014398509481983:=by omega
   have em:rd E (2*(2*D))=B:=by unfold rd;rw[v3,v4,v2,v1,e0];rw[aQ (by left;omega)];decide
   have em0:rd E (2*D)=2*B:=by
    unfold rd;rw[v2,v1,e0]
    rw[aQ (by
     rcases cV (E % D) with h0|h0
     ·right;rw[h0];constructor<;>omega
     ·left;omega)];decide
   have:=re Sa (e:=ee) (N:=cN d p) (m:=2*B) (by rw[←UA];exact em0) (.inr ⟨by omega,by omega⟩) (aq _);rw[em]
   rwa [show(ee+1)*B+B=ee*B+2*B by rw[bS];omega]
  ·refine re Sa (by rw[←XP]) (.inr ⟨D8,fun _=>?_⟩) (by omega)
   have h9:18014398509481984*D≤E:=by have:=bG D h;rw[aK] at this;omega
   refine eO (c:=2*D) ?_ (by omega);have e1:2*cN d p*(2*D)=2*(E*(cC p*2 ^ ee)):=by rw[aA,hsc]
   rw[e1,Nat.pow_succ,Of]
   have e2:2*4503599627370496*(cC p*(2 ^ ee*2))*(2*D)=2*(18014398509481984*D*(cC p*2 ^ ee)):=by rw[show(18014398509481984:Nat)=4503599627370496*2*2 by decide];simp only[aA,aK,bH]
   rw[e2];exact bG 2 (aI _ h9)
 ·intro hlt
  have hw:E / D<18014398509481983:=by
   rcases dD (E / D) 18014398509481983 with h|h
   ·exact h
   ·have:=(Jw E D 18014398509481983).2 h;rw[←hu] at this;omega
  subst hu;rw[TT E D hD];obtain⟨v1,v2⟩:=vI E D hD
  have hmd:rd E (2*D)≤2*B-1:=by
   unfold rd;rw[v1,v2]
   rcases dD (E / D) 18014398509481982 with h|h
   ·split<;>omega
   ·have e0:E / D=18014398509481982:=by omega
    rw[e0,aJ (by omega)];decide
  have D8:k=0→B≤rd E (2*D):=by
   intro h;have h9:9007199254740992≤E / D:=by rw[iq hD];have:=hlo h;omega
   unfold rd;rw[v1];omega
  refine⟨by split at he<;>omega,by omega,?_,?_⟩
  ·intro h
   rcases hsub with h3|h3
   ·have:=D8 h3;omega
   ·omega
  ·rw[show(1074-e).toNat=ee by omega];refine re Sa (by rw[←UA]) ?_ (by omega)
   rcases hsub with h3|h3
   ·right
    refine⟨D8 h3,fun _=>?_⟩;have h9:=hlo h3;refine eO (c:=D) ?_ hD;have e1:2*cN d p*D=E*(cC p*2 ^ ee):=by rw[hsc];simp only[aA,aK,bH]
    rw[e1,Of]
    have e2:2*4503599627370496*(cC p*2 ^ ee)*D=9007199254740992*D*(cC p*2 ^ ee):=by rw[show(9007199254740992:Nat)=2*4503599627370496 by decide];simp only[aA,aK,bH]
    rw[e2];exact aI _ h9
   ·exact .inl h3
theorem He {d b:Nat} {p e s:Int} (hb2:d<2 ^ b) (hb:b≤64) (h1:-345≤p) (h2:p≤310)
  (he:e=if 1074≤53-b-lpI p then 1074 else 53-b-lpI p) (hs:s=-(e-(64-b)+lpI p+3)) (hk:64≤s):eZ (cN d p) (cC p) 0:=by
 obtain⟨r1,r2⟩:=CN p h1 h2;obtain⟨k,hk'⟩:∃ k:Nat,s=8+k:=⟨(s-8).toNat,by omega⟩;have hee:((0:Nat):Int)=1074-e:=by split at he<;>omega
 have hsc:=CD d b p e s k 0 hb hs hk' hee;have hM:=FD p
 have hx2:d*2 ^ (64-b)<18446744073709551616:=by have e1:d*2 ^ (64-b)<2 ^ b*2 ^ (64-b):=bq hb2 (bf (by decide));rw[←aY,eB hb] at e1;omega
 generalize d*2 ^ (64-b)=x at *
 have Yd:2 ^ 56≤2 ^ k:=aS (by decide) (by omega);have Sa:=gr p;refine⟨.inl rfl,.inl ?_⟩;rw[rK,show V (0+1)=1 by decide,bD,dv];rw[Nat.pow_zero,bB] at hsc;have e3:PM p*2 ^ 56≤PM p*2 ^ k:=bG _ Yd;have hD:0<PM p*2 ^ k:=df hM (by omega)
 have e1:x*PA p<PM p*2 ^ k:=by have:x*PA p≤18446744073709551616*PA p:=aI _ (by omega);omega
 refine eN (a:=PM p*2 ^ k) ?_;have e2:2*cN d p*(PM p*2 ^ k)=x*PA p*cC p:=by rw[hsc];simp only[aA,aK,bH]
 rw[e2,aK (cC p)];exact bq e1 Sa
open Ieee
def sgw (neg:Bool):Nat:=if neg then 9223372036854775808 else 0
def cD:Nat:=9218868437227405312
theorem LQ:Ieee.double.signWeight=9223372036854775808:=by decide
theorem DO:Ieee.double.binade=B:=by decide
theorem GH:Ieee.double.infRung=cD:=by decide
theorem vJ:Ieee.double.leastPlace=-1074:=by decide
theorem LR:Ieee.double.fractionBits=52:=rfl
theorem SA (neg:Bool) (r:Nat):Ieee.double.word neg r=sgw neg+r:=by unfold Format.word sgw;rw[LQ];cases neg<;>simp
structure Reads (neg:Bool) (u mag:Nat) (place:Int):Prop where
 read:Ieee.double.read (sgw neg+u)=.number neg mag place
 le:-1074≤place
 val:mag*2 ^ (place+1074).toNat=V u
 lt:mag<9007199254740992
theorem reads (neg:Bool) (u:Nat) (h:u<cD):∃ mag place,Reads neg u mag place:=by
 have hi:cD=9218868437227405312:=rfl;have hB:B=4503599627370496:=rfl;have hs:sgw neg=0∨sgw neg=9223372036854775808:=by cases neg<;>simp[sgw]
 have e1:(sgw neg+u) % 9223372036854775808=u:=by omega
 have e2:((sgw neg+u) / 9223372036854775808 % 2 == 1)=neg:=by
  cases neg
  ·have:u / 9223372036854775808=0:=by omega
   simp[sgw,this]
  ·simp only[sgw,kY];have:(9223372036854775808+u) / 9223372036854775808=1:=by omega
   rw[this];rfl
 by_cases hu:u<B
 ·refine⟨u,-1074,?_,by omega,?_,by omega⟩
  ·unfold Format.read;simp only[LQ,DO,vJ,e1,e2,aQ hu]
  ·rw[mR hu];simp
 ·refine⟨B+u % B,-1074+((u / B-1:Nat):Int),?_,by omega,?_,by have:=dq u (show 0<B by decide);omega⟩
  ·unfold Format.read;simp only[LQ,DO,GH,vJ,e1,e2,aJ hu,aQ h]
  ·unfold V;rw[aJ hu]
   congr 2
   omega
theorem LU (neg:Bool) (n drop:Nat):Toward.even.cut neg n drop=rd n (2 ^ drop):=by
 unfold Toward.cut;simp only[Nat.one_shiftLeft]
 rcases dD (n.log2+2) drop with h|h
 ·rw[Nat.min_eq_right (bW h)];have h1:n<2 ^ (n.log2+1):=jf;have h2:2 ^ (n.log2+2)=2*2 ^ (n.log2+1):=by rw[Nat.pow_succ,aK]
  have h3:2 ^ (n.log2+2)≤2 ^ drop:=aS (by decide) (bW h);have e1:n / 2 ^ (n.log2+2)=0:=fa (by omega);have e2:n % 2 ^ (n.log2+2)=n:=ej (by omega);have e3:n / 2 ^ drop=0:=fa (by omega);have e4:n % 2 ^ drop=n:=ej (by omega);unfold rd;rw[e1,e2,e3,e4,aJ (by omega)]
  have:(decide (2 ^ (n.log2+2)<2*n)|| (2 ^ (n.log2+2) == 2*n && 0 % 2 == 1))=false:=by simp;omega
  rw[this];rfl
 ·rw[dB h];unfold rd;generalize n / 2 ^ drop=q
  generalize n % 2 ^ drop=r
  generalize 2 ^ drop=d
  by_cases hc:d<2*r∨2*r=d∧q % 2=1
  ·rw[aQ hc]
   have:(decide (d<2*r)|| (d == 2*r && q % 2 == 1))=true:=by
    rcases hc with h|⟨h,h'⟩
    ·simp[h]
    ·simp[h,h']
   rw[this];rfl
  ·rw[aJ hc]
   have:(decide (d<2*r)|| (d == 2*r && q % 2 == 1))=false:=by
    simp only[Bool.or_eq_false_iff,Bool.and_eq_false_iff,lB,fc];refine⟨fun h=>hc (.inl h),?_⟩
    by_cases h:d=2*r
    ·right;intro h2;exact hc (.inr ⟨h.symm,h2⟩)
    ·exact .inl h
   rw[this];rfl
def kI (mag:Nat) (place:Int):Int:=max (place+mag.log2-52) (-1074)
theorem uD (neg:Bool) (mag:Nat) (place:Int) (h:0<mag):
  Ieee.double.nearest neg mag place=sgw neg+min ((kI mag place+1074).toNat*B+rd (mag*2 ^ (place-kI mag place).toNat) (2 ^ (kI mag place-place).toNat)) cD:=by
 unfold Format.nearest kI;rw[aJ (by omega)];simp only[LR,vJ,DO,GH,SA,LU,je];rfl
theorem Ah {N D mag:Nat} {place:Int} (h:0<mag) (hD:0<D)
  (hr:rd (mag*2 ^ (place-kI mag place).toNat) (2 ^ (kI mag place-place).toNat)=rd N (D*2 ^ (kI mag place+1074).toNat))
  (hlo:-1074<kI mag place→B*(D*2 ^ (kI mag place+1074).toNat)≤N):
  eZ N D ((kI mag place+1074).toNat*B+rd (mag*2 ^ (place-kI mag place).toNat) (2 ^ (kI mag place-place).toNat)):=by
 have hL:kI mag place=max (place+mag.log2-52) (-1074):=rfl;generalize kI mag place=L at *
 have hl1:2 ^ mag.log2≤mag:=jg (by omega);have hl2:mag<2 ^ (mag.log2+1):=jf;generalize mag.log2=g at *
 have Of:(2:Nat) ^ 52=B:=rfl
 have hub:rd (mag*2 ^ (place-L).toNat) (2 ^ (L-place).toNat)≤2*B:=by
  have key:mag*2 ^ (place-L).toNat / 2 ^ (L-place).toNat<2*B:=by rw[gw (bf (by decide))];have e1:mag*2 ^ (place-L).toNat<2 ^ (g+1)*2 ^ (place-L).toNat:=bq hl2 (bf (by decide));rw[←aY] at e1;refine aP e1 ?_;rw[←Of,show 2*2 ^ 52=2 ^ 53 by decide,←aY];exact aS (by decide) (by omega)
  unfold rd;split<;>omega
 refine re hD hr.symm ?_ hub
 by_cases hle:L=-1074
 ·left;omega
 ·right
  have hLg:L=place+g-52:=by omega
  refine⟨?_,fun _=>?_⟩
  ·have key:B≤mag*2 ^ (place-L).toNat / 2 ^ (L-place).toNat:=by rw[iq (bf (by decide))];have e1:2 ^ g*2 ^ (place-L).toNat≤mag*2 ^ (place-L).toNat:=aI _ hl1;rw[←aY] at e1;refine aF ?_ e1;rw[←Of,←aY];exact aS (by decide) (by omega)
   unfold rd;omega
  ·have:=hlo (by omega);rw[aA];exact bG 2 this
theorem vt (neg:Bool) (mag:Nat) (place:Int) (h:0<mag):
  ∃ u,eZ (mag*2 ^ (place+1074).toNat) (2 ^ (-(place+1074)).toNat) u∧Ieee.double.nearest neg mag place=sgw neg+min u cD:=by
 refine⟨_,?_,uD neg mag place h⟩;have hL:kI mag place=max (place+mag.log2-52) (-1074):=rfl;refine Ah h (bf (by decide)) ?_ ?_
 ·generalize kI mag place=L at *
  refine vf (bf (by decide)) (df (bf (by decide)) (bf (by decide))) ?_;rw[←aY,aA,aA,←aY,←aY]
  congr 2
  omega
 ·intro h2;have hl1:2 ^ mag.log2≤mag:=jg (by omega);generalize kI mag place=L at *
  generalize mag.log2=g at *
  have e1:2 ^ g*2 ^ (place+1074).toNat≤mag*2 ^ (place+1074).toNat:=aI _ hl1;refine aF ?_ e1;rw[V0,←aY,←aY,←aY];exact aS (by decide) (by omega)
theorem Q0 (a n k:Nat) (hn:0<n):rd (unr a n) (2 ^ (k+2))=rd a (n*2 ^ (k+1)):=by
 have hk:0<2 ^ k:=bf (by decide);have e1:2 ^ (k+2)=4*2 ^ k:=by rw[aY,aK]
 have e2:n*2 ^ (k+1)=2*(n*2 ^ k):=by rw[aY,ke,←aA,aK]
 have h1:=cY a n;have h2:=dq a hn;rw[e1,e2]
 have q1:unr a n / (4*2 ^ k)=a / n / (2*2 ^ k):=by
  have:unr a n / 2=a / n:=by unfold unr;split<;>omega
  rw[show 4*2 ^ k=2*(2*2 ^ k) by omega,←l6,this]
 have q2:a / (2*(n*2 ^ k))=a / n / (2*2 ^ k):=by rw[show 2*(n*2 ^ k)=n*(2*2 ^ k) by rw[bH],l6]
 have r1:unr a n % (4*2 ^ k)=2*(a / n % (2*2 ^ k))+(if a % n=0 then 0 else 1):=by
  have h3:=cY (unr a n) (4*2 ^ k);have h4:=cY (a / n) (2*2 ^ k);rw[q1] at h3;have:unr a n=2*(a / n)+(if a % n=0 then 0 else 1):=rfl
  have e5:4*2 ^ k*(a / n / (2*2 ^ k))=2*(2*2 ^ k*(a / n / (2*2 ^ k))):=by rw[show 4*2 ^ k=2*(2*2 ^ k) by omega,aA]
  omega
 have r2:a % (2*(n*2 ^ k))=n*(a / n % (2*2 ^ k))+a % n:=by
  have h3:=cY a (2*(n*2 ^ k));have h4:=cY (a / n) (2*2 ^ k);rw[q2] at h3
  have e5:2*(n*2 ^ k)*(a / n / (2*2 ^ k))=n*(2*2 ^ k*(a / n / (2*2 ^ k))):=by rw[show 2*(n*2 ^ k)=n*(2*2 ^ k) by rw[bH],aA]
  have e6:n*(a / n)=n*(2*2 ^ k*(a / n / (2*2 ^ k)))+n*(a / n % (2*2 ^ k)):=by rw[←dF,h4]
  omega
 unfold rd;rw[q1,q2,r1,r2];have h5:a / n % (2*2 ^ k)<2*2 ^ k:=dq _ (by omega);generalize a / n / (2*2 ^ k)=Q
 generalize a / n % (2*2 ^ k)=R at *
 generalize a % n=r at *
 generalize 2 ^ k=K at *
 have hc:(4*K<2*(2*R+if r=0 then 0 else 1)∨2*(2*R+if r=0 then 0 else 1)=4*K∧Q % 2=1)↔(2*(n*K)<2*(n*R+r)∨2*(n*R+r)=2*(n*K)∧Q % 2=1):=by
  rcases fH R K with h|h|h
  ·have h6:n*(R+1)≤n*K:=bG n h;rw[dF] at h6;constructor
   ·intro hh;split at hh<;>omega
   ·intro hh;omega
  ·subst h
   by_cases hr:r=0
   ·subst hr;simp;omega
   ·rw[aJ hr];constructor
    ·intro hh;left;omega
    ·intro hh;left;omega
  ·have h6:n*(K+1)≤n*R:=bG n h;rw[dF] at h6;constructor
   ·intro hh;left;omega
   ·intro hh;left;split<;>omega
 simp only[hc]
theorem C8 (neg:Bool) (a n:Nat) (place:Int) (hn:0<n) (h:9007199254740992≤a / n):
  ∃ u,eZ (a*2 ^ (place+1075).toNat) (n*2 ^ (-(place+1075)).toNat) u∧Ieee.double.nearest neg (unr a n) place=sgw neg+min u cD:=by
 have abW:18014398509481984≤unr a n:=by unfold unr;omega
 refine⟨_,?_,uD neg (unr a n) place (by omega)⟩;have hl1:2 ^ (unr a n).log2≤unr a n:=jg (by omega);have hl2:unr a n<2 ^ ((unr a n).log2+1):=jf;have hL:kI (unr a n) place=max (place+(unr a n).log2-52) (-1074):=rfl
 have hg:54≤(unr a n).log2:=by
  rcases dD (unr a n).log2 54 with h3|h3
  ·have:2 ^ ((unr a n).log2+1)≤2 ^ 54:=aS (by decide) (by omega);omega
  ·exact h3
 refine Ah (by omega) (df hn (bf (by decide))) ?_ ?_
 ·generalize kI (unr a n) place=L at *
  obtain⟨k,hk⟩:∃ k:Nat,L-place=k+2:=⟨(L-place-2).toNat,by omega⟩;rw[show(place-L).toNat=0 by omega,Nat.pow_zero,bB,show(L-place).toNat=k+2 by omega,Q0 a n k hn];refine vf (df hn (bf (by decide))) (df (df hn (bf (by decide))) (bf (by decide))) ?_;have e1:a*(n*2 ^ (-(place+1075)).toNat*2 ^ (L+1074).toNat)=a*n*(2 ^ (-(place+1075)).toNat*2 ^ (L+1074).toNat):=by simp only[aA,aK,bH]
  have e2:a*2 ^ (place+1075).toNat*(n*2 ^ (k+1))=a*n*(2 ^ (place+1075).toNat*2 ^ (k+1)):=by simp only[aA,aK,bH]
  rw[e1,e2,←aY,←aY]
  congr 2
  omega
 ·intro h2;generalize kI (unr a n) place=L at *
  have hu:unr a n≤2*(a / n)+1:=by unfold unr;split<;>omega
  obtain⟨g,hg2⟩:∃ g,(unr a n).log2=g+1:=⟨(unr a n).log2-1,by omega⟩;rw[hg2] at hl1 hL hg;have h3:2 ^ g≤a / n:=by rw[Nat.pow_succ] at hl1;omega
  have h4:n*2 ^ g≤a:=by have:=bG n h3;exact aF this (Nat.mul_div_le a n)
  have e1:n*2 ^ g*2 ^ (place+1075).toNat≤a*2 ^ (place+1075).toNat:=aI _ h4;refine aF ?_ e1;have e2:B*(n*2 ^ (-(place+1075)).toNat*2 ^ (L+1074).toNat)=n*(2 ^ 52*(2 ^ (-(place+1075)).toNat*2 ^ (L+1074).toNat)):=by rw[V0];simp only[aA,aK,bH]
  rw[e2,←aY,←aY,aA,←aY];exact bG n (aS (by decide) (by omega))
def ur (u n:Nat):Prop:=V u=n*2 ^ K74
theorem GC (i j:Int) (h1:-1074≤i) (h2:-1074≤j) (K:Nat) (hK:K=1074):(i+j+1074).toNat+K=(i+1074).toNat+(j+1074).toNat+(-(i+j+1074)).toNat:=by omega
theorem Oj (i j:Int) (m:Nat) (h1:-1074≤i) (h2:-1074≤j) (K:Nat) (hK:K=1074):m+(i-j-m-1+1075).toNat+(j+1074).toNat=(i+1074).toNat+(-(i-j-m-1+1075)).toNat+K:=by omega
theorem rh {N u:Nat} (h:V u=N):eZ N 1 u:=by
 subst h;have h1:=uN u;have h2:=AW u;refine⟨?_,.inl (by omega)⟩
 rcases cV u with h|h
 ·exact .inl h
 ·have:=sZ (show u-1<u by omega);exact .inr (.inl (by omega))
theorem yO (neg:Bool) (d:Nat) (h0:0<d) (h1:d<9007199254740992):∃ u,u<cD∧ur u d∧Ieee.double.nearest neg d 0=sgw neg+u:=by
 have hl1:2 ^ d.log2≤d:=jg (by omega);have hl2:d<2 ^ (d.log2+1):=jf
 have hg:d.log2≤52:=by
  rcases dD 52 d.log2 with h3|h3
  ·have:2 ^ 53≤2 ^ d.log2:=aS (by decide) h3;omega
  ·exact h3
 have e:=uD neg d 0 h0;have hL:kI d 0=d.log2-52:=by unfold kI;omega
 rw[hL] at e;generalize d.log2=g at *
 have e1:rd (d*2 ^ (0-((g:Int)-52)).toNat) (2 ^ ((g:Int)-52-0).toNat)=d*2 ^ (52-g):=by rw[show((g:Int)-52-0).toNat=0 by omega,show(0-((g:Int)-52)).toNat=52-g by omega];unfold rd;simp[nA]
 rw[e1] at e
 have b1:B≤d*2 ^ (52-g):=by
  have:2 ^ g*2 ^ (52-g)≤d*2 ^ (52-g):=aI _ hl1
  rwa [←aY,eB hg] at this
 have b2:d*2 ^ (52-g)<2*B:=by have:d*2 ^ (52-g)<2 ^ (g+1)*2 ^ (52-g):=bq hl2 (bf (by decide));rw[←aY,show g+1+(52-g)=53 by omega] at this;exact this
 have hB:B=4503599627370496:=rfl;have hi:cD=9218868437227405312:=rfl;have b3:((g:Int)-52+1074).toNat*B≤1074*B:=aI _ (by omega);refine⟨((g:Int)-52+1074).toNat*B+d*2 ^ (52-g),by omega,?_,?_⟩
 ·unfold ur;rw[rL _ _ b1 b2,aA,←aY]
  congr 2
  have:=nM;omega
 ·rw[e,dB (by omega)]
theorem yI {s t:Bool} {u v a c:Nat} (hu:u<cD) (hv:v<cD) (ha:ur u a) (hc:ur v c) (h0:0<a) (h1:0<c):
  ∃ w,eZ (a*c*2 ^ K74) 1 w∧Ieee.double.mul (sgw s+u) (sgw t+v)=some (sgw (s ^^ t)+min w cD):=by
 obtain⟨m,i,r1⟩:=reads s u hu;obtain⟨n,j,r2⟩:=reads t v hv
 have hm:0<m:=by
  rcases cV m with h|h
  ·have:=r1.val;rw[h,fO,ha] at this;have:0<a*2 ^ K74:=df h0 (bf (by decide));omega
  ·exact h
 have hn:0<n:=by
  rcases cV n with h|h
  ·have:=r2.val;rw[h,fO,hc] at this;have:0<c*2 ^ K74:=df h1 (bf (by decide));omega
  ·exact h
 obtain⟨w,hw,e⟩:=vt (s ^^ t) (m*n) (i+j) (df hm hn);refine⟨w,oG (bf (by decide)) (by decide) ?_ hw,?_⟩
 ·have e1:m*2 ^ (i+1074).toNat*(n*2 ^ (j+1074).toNat)=a*2 ^ K74*(c*2 ^ K74):=by rw[r1.val,r2.val,ha,hc]
  have k1:=r1.le;have k2:=r2.le;have kk:=nM;have hP:0<2 ^ K74:=bf (by decide);refine fp hP ?_
  have e2:m*n*2 ^ (i+j+1074).toNat*1*2 ^ K74=m*2 ^ (i+1074).toNat*(n*2 ^ (j+1074).toNat)*2 ^ (-(i+j+1074)).toNat:=by
   have l1:m*n*2 ^ (i+j+1074).toNat*1*2 ^ K74=m*n*(2 ^ (i+j+1074).toNat*2 ^ K74):=by rw[bB,aA (m*n)]
   have l2:m*2 ^ (i+1074).toNat*(n*2 ^ (j+1074).toNat)*2 ^ (-(i+j+1074)).toNat=m*n*(2 ^ (i+1074).toNat*2 ^ (j+1074).toNat*2 ^ (-(i+j+1074)).toNat):=by simp only[aA,aK,bH]
   rw[l1,l2,←aY,←aY,←aY,GC i j k1 k2 K74 kk]
  rw[e2,e1];simp only[aA,aK,bH]
 ·unfold Format.mul;rw[r1.read,r2.read];simp only[Datum.product,Option.map_some,Format.write,e]
theorem LO {s t:Bool} {u v a c:Nat} (hu:u<cD) (hv:v<cD) (ha:ur u a) (hc:ur v c) (h0:0<a) (h1:0<c):
  ∃ w,eZ (a*2 ^ K74) c w∧Ieee.double.div (sgw s+u) (sgw t+v)=some (sgw (s ^^ t)+min w cD):=by
 obtain⟨m,i,r1⟩:=reads s u hu;obtain⟨n,j,r2⟩:=reads t v hv
 have hm:0<m:=by
  rcases cV m with h|h
  ·have:=r1.val;rw[h,fO,ha] at this;have:0<a*2 ^ K74:=df h0 (bf (by decide));omega
  ·exact h
 have hn:0<n:=by
  rcases cV n with h|h
  ·have:=r2.val;rw[h,fO,hc] at this;have:0<c*2 ^ K74:=df h1 (bf (by decide));omega
  ·exact h
 have hq:9007199254740992≤m*2 ^ (54+n.log2-m.log2) / n:=by
  have a1:2 ^ m.log2≤m:=jg (by omega);have a2:n<2 ^ (n.log2+1):=jf
  have a3:m.log2≤54+n.log2:=by
   have:m<2 ^ 53:=r1.lt
   have:m.log2≤53:=by
    rcases dD 53 m.log2 with h3|h3
    ·have:2 ^ 53≤2 ^ m.log2:=aS (by decide) (by omega);omega
    ·exact h3
   omega
  rw[iq hn];have e1:2 ^ m.log2*2 ^ (54+n.log2-m.log2)≤m*2 ^ (54+n.log2-m.log2):=aI _ a1;rw[←aY,eB a3] at e1;have e2:9007199254740992*n≤9007199254740992*2 ^ (n.log2+1):=bG _ (bW a2)
  have e3:9007199254740992*2 ^ (n.log2+1)=2 ^ (54+n.log2):=by rw[show(9007199254740992:Nat)=2 ^ 53 by decide,←aY];congr 1;omega
  omega
 generalize hmore:54+n.log2-m.log2=more at *
 obtain⟨w,hw,e⟩:=C8 (s ^^ t) (m*2 ^ more) n (i-j-more-1) hn hq;refine⟨w,oG (df hn (bf (by decide))) h1 ?_ hw,?_⟩
 ·have k1:=r1.le;have k2:=r2.le;have kk:=nM;have v1:=r1.val;have v2:=r2.val;rw[ha] at v1;rw[hc] at v2;refine fp (show 0<2 ^ K74 from bf (by decide)) ?_;have l1:m*2 ^ more*2 ^ (i-j-more-1+1075).toNat*c*2 ^ K74=m*2 ^ more*2 ^ (i-j-more-1+1075).toNat*(n*2 ^ (j+1074).toNat):=by rw[v2];simp only[aA,aK,bH]
  have l2:a*2 ^ K74*(n*2 ^ (-(i-j-more-1+1075)).toNat)*2 ^ K74=m*2 ^ (i+1074).toNat*(n*2 ^ (-(i-j-more-1+1075)).toNat)*2 ^ K74:=by rw[v1]
  rw[l1,l2];have l3:m*2 ^ more*2 ^ (i-j-more-1+1075).toNat*(n*2 ^ (j+1074).toNat)=m*n*(2 ^ more*2 ^ (i-j-more-1+1075).toNat*2 ^ (j+1074).toNat):=by simp only[aA,aK,bH]
  have l4:m*2 ^ (i+1074).toNat*(n*2 ^ (-(i-j-more-1+1075)).toNat)*2 ^ K74=m*n*(2 ^ (i+1074).toNat*2 ^ (-(i-j-more-1+1075)).toNat*2 ^ K74):=by simp only[aA,aK,bH]
  rw[l3,l4,←aY,←aY,←aY,←aY,Oj i j more k1 k2 K74 kk]
 ·unfold Format.div;rw[r1.read,r2.read,LR];simp only[Datum.quotient];rw[aJ (by omega)];simp only[Option.map_some,Format.write,je];rw[hmore]
  have eu:2*(m*2 ^ more / n)+(m*2 ^ more % n != 0).toNat=unr (m*2 ^ more) n:=by
   unfold unr
   by_cases hz:m*2 ^ more % n=0<;>simp[hz]
  rw[eu,e]
def sI (neg:Bool) (n:Nat):Int:=if neg then -(n:Int) else n
theorem zL (a b:Int) (k:Nat) (hk:0<k):compare (a*k) (b*k)=compare a b:=by
 have hk':(0:Int)<k:=by omega
 rcases dy a b with h|h|h
 ·rw[(iM).2 h,(iM).2 (oj h hk')]
 ·rw[h];simp
 ·rw[(iN).2 h,(iN).2 (oj h hk')]
theorem kA (s t:Bool) (u v:Nat) (hu:u<cD) (hv:v<cD):Ieee.double.order (sgw s+u) (sgw t+v)=some (compare (sI s (V u)) (sI t (V v))):=by
 obtain⟨m,i,r1⟩:=reads s u hu;obtain⟨n,j,r2⟩:=reads t v hv;unfold Format.order;rw[r1.read,r2.read];simp only[Datum.order];have k1:=r1.le;have k2:=r2.le;have hb:-1074≤min i j:=by omega
 have e1:sI s (V u)=signed s m (i-min i j).toNat*((2 ^ (min i j+1074).toNat:Nat):Int):=by
  rw[←r1.val]
  have:m*2 ^ (i+1074).toNat=m <<< (i-min i j).toNat*2 ^ (min i j+1074).toNat:=by rw[je,aA,←aY];congr 2;omega
  rw[this];unfold sI signed
  cases s<;>simp[nE]
 have e2:sI t (V v)=signed t n (j-min i j).toNat*((2 ^ (min i j+1074).toNat:Nat):Int):=by
  rw[←r2.val]
  have:n*2 ^ (j+1074).toNat=n <<< (j-min i j).toNat*2 ^ (min i j+1074).toNat:=by rw[je,aA,←aY];congr 2;omega
  rw[this];unfold sI signed
  cases t<;>simp[nE]
 rw[e1,e2,zL _ _ _ (bf (by decide))]
theorem lr {a b:Int} (h:b<a):compare a b=.gt:=(iN).2 h
theorem j8 {a b:Int} (h:a<b):compare a b=.lt:=(iM).2 h
def jt:List Nat:=[4607182418800017408,4621819117588971520,4636737291354636288,4652007308841189376,4666723172467343360,4681608360884174848,4696837146684686336,4711630319722168320,4726483295884279808,4741671816366391296,4756540486875873280,4771362005757984768,4786511204640096256,4801453603149578240,4816244402031689728,4831355200913801216,4846369599423283200,4861130398305394688,4876203697187506176,4891288408196988160,4906019910204099648,4921056587992461136,4936209963552724370]
def C0:Nat→List Nat→Bool
 | _,[]=>true
 | k,u::r=>decide (V u=10 ^ k*2 ^ K74) && decide (u<cD) && C0 (k+1) r
theorem CZ:∀ {l:List Nat} {k:Nat},C0 k l=true→∀ (i u:Nat),l[i]?=some u→V u=10 ^ (k+i)*2 ^ K74∧u<cD
 | [],k,h,i,u,hc=>by simp at hc
 | d::r,k,h,0,u,hc=>by simp only[C0,cQ,dr] at h;simp at hc;subst hc;exact⟨by simpa using h.1.1,h.1.2⟩
 | d::r,k,h,i+1,u,hc=>by
  simp only[C0,cQ,dr] at h;simp at hc;have:=CZ h.2 i u hc
  rwa [show k+1+i=k+(i+1) by omega] at this
theorem EM:C0 0 jt=true:=by decide +kernel
theorem yA (k:Nat) (h:k≤22):ur (jt.getD k 0) (10 ^ k)∧jt.getD k 0<cD:=by
 have hk:k<jt.length:=by
  have:jt.length=23:=by decide
  omega
 have:=CZ EM k _ (ag hk);rw[az,ag hk]
 rwa [bD] at this
end fl
end Go.Proofs.YthpdlidbaojlbaaGreatDoor
