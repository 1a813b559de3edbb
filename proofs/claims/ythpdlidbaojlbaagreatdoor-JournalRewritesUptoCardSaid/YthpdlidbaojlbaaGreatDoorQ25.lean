/- The contract of internal/strconv.atof64exact: where it says  -/
import Derived.Test.YthpdlidbaojlbaaGreatDoorQ24
set_option linter.unusedVariables false
set_option linter.unusedSimpArgs false
set_option maxHeartbeats 4000000
open Go.ChangeShapes Go.WideShapes Go.ChangeAt Go.RowKit
namespace Go.Proofs.YthpdlidbaojlbaaGreatDoor
namespace fl
set_option maxRecDepth 100000 in
theorem xT (x:Value) (n k:Nat) (w:World) (hx:Num .u64 w x n) (hn:n<Bs ^ KB) (hk:k≤10000):
  Calls Tryz.prog 123 #[x,.int .i64 k] w (jU .u64 (n*2 ^ k) w):=by
 by_cases h0:0<n
 ·exact doubleR x n k w hx (aP hn (aS gB (by decide))) h0 hk
 ·obtain rfl:n=0:=by omega
  obtain⟨l,hl,hc,hv⟩:=hx
  have hnil:l=[]:=by
   cases l with
   | nil=>rfl
   | cons d t=>exact absurd hv (Nat.pos_iff_ne_zero.mp (OB hc (by simp)))
  subst hnil;obtain⟨a,cap,rfl,hcap,hr⟩:=hl;have HR:=aj hr;clear hr hn;simp only[List.length_nil];go_enter Tryz.func123,Tryz.ntmps123
  go_wp2_with fail
  go_ret;exact⟨_,rfl,⟨[],⟨a,cap,rfl,hcap,HR.out⟩,BU,by simp[dA]⟩,Below.refl _ _⟩
theorem yh {n k:Nat} (hn:n<Bs ^ KB) (hk:k≤10000):n*2 ^ k<Bs ^ KA:=by
 have h1:2 ^ k≤Bs ^ KB:=by rw[show Bs=2 ^ 32 from rfl,←s8];exact aS (by decide) (by unfold KB;omega)
 have h2:n*2 ^ k≤n*Bs ^ KB:=bG _ h1;have h3:n*Bs ^ KB<Bs ^ KB*Bs ^ KB:=bq hn (zj _);rw[←aY] at h3;have h4:Bs ^ (KB+KB)≤Bs ^ KA:=aS gB (by decide);exact cE h2 (aP h3 h4)
theorem sk {n:Nat} {k:Int} (hn:n<Bs ^ KA) (hk:k≤1000):n*10 ^ k.toNat<Bs ^ KC:=by have h:=zQ.le (a:=n) (n:=k) (k:=0) (cur:=n*10 ^ k.toNat);have h1:10 ^ k.toNat≤Bs ^ KB:=aF (nR (by decide) _) (aS gB (by unfold KB;omega));have h2:n*10 ^ k.toNat≤n*Bs ^ KB:=bG _ h1;have h3:n*Bs ^ KB<Bs ^ KA*Bs ^ KB:=bq hn (zj _);rw[←aY] at h3;have h4:Bs ^ (KA+KB)≤Bs ^ KC:=aS gB kac;exact cE h2 (aP h3 h4)
theorem kba:Bs ^ KB≤Bs ^ KA:=aS gB (by decide)
theorem E8:Bs ^ KA≤Bs ^ KC:=aS gB (by decide)
theorem ub {m:Nat} (h:m<18446744073709551616):m<Bs ^ KB:=by
 have h1:Bs ^ 2≤Bs ^ KB:=aS gB (by decide);have h2:Bs ^ 2=18446744073709551616:=by decide
 rw[h2] at h1;exact aP h h1
def pM (u:Nat):Nat:=if u / 4503599627370496=0 then u else u % 4503599627370496+4503599627370496
def pE (u:Nat):Int:=if u / 4503599627370496=0 then -1074 else (u / 4503599627370496:Nat)-1075
theorem Bh (u:Nat) (w:World) (hu:u<9223372036854775808):
  Calls Tryz.prog 83 #[.int .u64 u] w fun e w'=>e=.returned (.tuple #[.int .u64 (pM u),.int .i64 (pE u)])∧w'=w:=by
 have ha:=mW u 4503599627370495 (by omega) (by decide);rw[nat_mask52] at ha;have HA:Hid (bits BinOp.and IntKind.u64 (u:Int) 4503599627370495=((u % 4503599627370496:Nat):Int)):=aj ha;clear ha
 by_cases hz:u / 4503599627370496=0
 ·have hz':(u:Int) / 4503599627370496=0:=by omega
  have HP:Hid (pM u=u∧pE u=-1074):=aj ⟨aQ hz,aQ hz⟩;have HQ:Hid (u % 4503599627370496=u):=aj (by omega);clear hz;go_enter Tryz.func83,Tryz.ntmps83
  go_wp2_with fail
  go_ret2
  exact⟨by rw[HP.out.1,HP.out.2];show Ending.returned (.tuple #[.int .u64 _,.int .i64 _])=_;rw[HA.out,HQ.out],rfl⟩
 ·have hz':((u:Int) / 4503599627370496 == 0)=false:=by simp;omega
  have HP:Hid (pM u=u % 4503599627370496+4503599627370496∧pE u=((u / 4503599627370496:Nat):Int)-1075):=aj ⟨aJ hz,aJ hz⟩;have hm:u % 4503599627370496<4503599627370496:=dq _ (by decide);obtain⟨M,hM⟩:∃ M,u % 4503599627370496=M:=⟨_,rfl⟩;rw[hM] at HA HP hm;have ha:=HA.out;clear hz HA hM;go_enter Tryz.func83,Tryz.ntmps83
  go_wp2_with fail
  go_ret2
  exact⟨by rw[HP.out.1,HP.out.2];rfl,rfl⟩
def agL (m:Nat) (e q:Int):Nat:=m*2 ^ e.toNat*10 ^ (-q).toNat
def agR (d:Nat) (e q:Int):Nat:=d*2 ^ (-e).toNat*10 ^ q.toNat
set_option maxRecDepth 100000 in
theorem I0 (m:Nat) (e:Int) (y:Value) (d:Nat) (q:Int) (w:World) (hm:m<18446744073709551616) (he1:-9000≤e) (he2:e≤9000) (hq1:-900≤q) (hq2:q≤900) (hy:Num .u64 w y d) (hd:d<Bs ^ KB) (he:0≤e) (hq:0≤q):
  Calls Tryz.prog 84 #[.int .u64 m,.int .i64 e,y,.int .i64 q] w (lj (agL m e q) (agR d e q) w):=by
 obtain⟨k,hk⟩:∃ k:Nat,e=(k:Int):=⟨e.natAbs,by omega⟩;subst hk;have HA:Hid (agL m (k:Int) q=m*2 ^ k):=aj (by unfold agL;rw[show((k:Int)).toNat=k by omega,show(-q).toNat=0 by omega];try simp);have HB:Hid (agR d (k:Int) q=d*10 ^ q.toNat):=aj (by unfold agR;rw[show(-(k:Int)).toNat=0 by omega];try simp);have HY:=aj hy;have HD:=aj hd;have HM:=aj (ub hm);clear hy hd;have Pc:Hid (m*2 ^ k<Bs ^ KA):=aj (yh HM.out (by omega));have HB0:Hid (d<Bs ^ KA):=aj (aP HD.out kba);have hk2:k≤10000:=by omega
 go_enter Tryz.func84,Tryz.ntmps84
 go_wp2_with fail
 refine(ofR m _ hm).mono ?_;rintro e1 w1 ⟨a,rfl,ha,hb1⟩;have H1:=aj ha;have B1:=aj hb1;have xt:=aj (HY.out.on hb1);clear ha hb1;go_wp2_with fail
 refine(xT _ _ k _ H1.out HM.out hk2).mono ?_;rintro e2 w2 ⟨a2,rfl,ha2,hb2⟩;have H2:=aj ha2;have B2:=aj (B1.out.trans (hb2.mono B1.out.size));have O2:=aj (xt.out.on hb2);clear ha2 hb2;go_wp2_with fail
 refine(FU _ _ q _ O2.out HB0.out (by omega) (by omega)).mono ?_;rintro e3 w3 ⟨a3,rfl,GA,hb3⟩;have H3:=aj GA;have B3:=aj (B2.out.trans (hb3.mono B2.out.size));have O3:=aj (H2.out.on hb3);clear GA hb3;go_wp2_with fail
 refine(Bk _ _ _ _ _ O3.out H3.out (aP Pc.out E8) (sk HB0.out (by omega))).mono ?_;rintro e4 w4 ⟨r,rfl,hr1,hr2,hb4⟩;have R1:=aj hr1;have R2:=aj hr2;have B4:=aj (B3.out.trans (hb4.mono B3.out.size));clear hr1 hr2 hb4;go_wp2_with fail
 go_ret;exact⟨r,rfl,by rw[HA.out,HB.out];exact R1.out,by rw[HA.out,HB.out];exact R2.out,B4.out⟩
set_option maxRecDepth 100000 in
theorem I1 (m:Nat) (e:Int) (y:Value) (d:Nat) (q:Int) (w:World) (hm:m<18446744073709551616) (he1:-9000≤e) (he2:e≤9000) (hq1:-900≤q) (hq2:q≤900) (hy:Num .u64 w y d) (hd:d<Bs ^ KB) (he:0≤e) (hq:q<0):
  Calls Tryz.prog 84 #[.int .u64 m,.int .i64 e,y,.int .i64 q] w (lj (agL m e q) (agR d e q) w):=by
 obtain⟨k,hk⟩:∃ k:Nat,e=(k:Int):=⟨e.natAbs,by omega⟩;subst hk;have HA:Hid (agL m (k:Int) q=m*2 ^ k*10 ^ (-q).toNat):=aj (by unfold agL;rw[show((k:Int)).toNat=k by omega];try simp);have HB:Hid (agR d (k:Int) q=d):=aj (by unfold agR;rw[show(-(k:Int)).toNat=0 by omega,show q.toNat=0 by omega];try simp);have HY:=aj hy;have HD:=aj hd;have HM:=aj (ub hm);clear hy hd;have Pc:Hid (m*2 ^ k<Bs ^ KA):=aj (yh HM.out (by omega));have HB0:Hid (d<Bs ^ KA):=aj (aP HD.out kba);have hk2:k≤10000:=by omega
 go_enter Tryz.func84,Tryz.ntmps84
 go_wp2_with fail
 refine(ofR m _ hm).mono ?_;rintro e1 w1 ⟨a,rfl,ha,hb1⟩;have H1:=aj ha;have B1:=aj hb1;have xt:=aj (HY.out.on hb1);clear ha hb1;go_wp2_with fail
 refine(xT _ _ k _ H1.out HM.out hk2).mono ?_;rintro e2 w2 ⟨a2,rfl,ha2,hb2⟩;have H2:=aj ha2;have B2:=aj (B1.out.trans (hb2.mono B1.out.size));have O2:=aj (xt.out.on hb2);clear ha2 hb2;go_wp2_with fail
 refine(FU _ _ (-q) _ H2.out Pc.out (by omega) (by omega)).mono ?_;rintro e3 w3 ⟨a3,rfl,GA,hb3⟩;have H3:=aj GA;have B3:=aj (B2.out.trans (hb3.mono B2.out.size));have O3:=aj (O2.out.on hb3);clear GA hb3;go_wp2_with fail
 refine(Bk _ _ _ _ _ H3.out O3.out (sk Pc.out (by omega)) (aP HB0.out E8)).mono ?_;rintro e4 w4 ⟨r,rfl,hr1,hr2,hb4⟩;have R1:=aj hr1;have R2:=aj hr2;have B4:=aj (B3.out.trans (hb4.mono B3.out.size));clear hr1 hr2 hb4;go_wp2_with fail
 go_ret;exact⟨r,rfl,by rw[HA.out,HB.out];exact R1.out,by rw[HA.out,HB.out];exact R2.out,B4.out⟩
set_option maxRecDepth 100000 in
theorem I2 (m:Nat) (e:Int) (y:Value) (d:Nat) (q:Int) (w:World) (hm:m<18446744073709551616) (he1:-9000≤e) (he2:e≤9000) (hq1:-900≤q) (hq2:q≤900) (hy:Num .u64 w y d) (hd:d<Bs ^ KB) (he:e<0) (hq:0≤q):
  Calls Tryz.prog 84 #[.int .u64 m,.int .i64 e,y,.int .i64 q] w (lj (agL m e q) (agR d e q) w):=by
 obtain⟨k,hk⟩:∃ k:Nat,e=-(k:Int):=⟨e.natAbs,by omega⟩;subst hk;have HA:Hid (agL m (-(k:Int)) q=m):=aj (by unfold agL;rw[show((-(k:Int))).toNat=0 by omega,show(-q).toNat=0 by omega];try simp);have HB:Hid (agR d (-(k:Int)) q=d*2 ^ k*10 ^ q.toNat):=aj (by unfold agR;rw[show(-(-(k:Int))).toNat=k by omega];try simp);have HY:=aj hy;have HD:=aj hd;have HM:=aj (ub hm);clear hy hd;have Pc:Hid (d*2 ^ k<Bs ^ KA):=aj (yh HD.out (by omega));have HB0:Hid (m<Bs ^ KA):=aj (aP HM.out kba);have hk2:k≤10000:=by omega
 go_enter Tryz.func84,Tryz.ntmps84
 go_wp2_with fail
 refine(ofR m _ hm).mono ?_;rintro e1 w1 ⟨a,rfl,ha,hb1⟩;have H1:=aj ha;have B1:=aj hb1;have xt:=aj (HY.out.on hb1);clear ha hb1;go_wp2_with fail
 refine(xT _ _ k _ xt.out HD.out hk2).mono ?_;rintro e2 w2 ⟨a2,rfl,ha2,hb2⟩;have H2:=aj ha2;have B2:=aj (B1.out.trans (hb2.mono B1.out.size));have O2:=aj (H1.out.on hb2);clear ha2 hb2;go_wp2_with fail
 refine(FU _ _ q _ H2.out Pc.out (by omega) (by omega)).mono ?_;rintro e3 w3 ⟨a3,rfl,GA,hb3⟩;have H3:=aj GA;have B3:=aj (B2.out.trans (hb3.mono B2.out.size));have O3:=aj (O2.out.on hb3);clear GA hb3;go_wp2_with fail
 refine(Bk _ _ _ _ _ O3.out H3.out (aP HB0.out E8) (sk Pc.out (by omega))).mono ?_;rintro e4 w4 ⟨r,rfl,hr1,hr2,hb4⟩;have R1:=aj hr1;have R2:=aj hr2;have B4:=aj (B3.out.trans (hb4.mono B3.out.size));clear hr1 hr2 hb4;go_wp2_with fail
 go_ret;exact⟨r,rfl,by rw[HA.out,HB.out];exact R1.out,by rw[HA.out,HB.out];exact R2.out,B4.out⟩
set_option maxRecDepth 100000 in
theorem I3 (m:Nat) (e:Int) (y:Value) (d:Nat) (q:Int) (w:World) (hm:m<18446744073709551616) (he1:-9000≤e) (he2:e≤9000) (hq1:-900≤q) (hq2:q≤900) (hy:Num .u64 w y d) (hd:d<Bs ^ KB) (he:e<0) (hq:q<0):
  Calls Tryz.prog 84 #[.int .u64 m,.int .i64 e,y,.int .i64 q] w (lj (agL m e q) (agR d e q) w):=by
 obtain⟨k,hk⟩:∃ k:Nat,e=-(k:Int):=⟨e.natAbs,by omega⟩;subst hk;have HA:Hid (agL m (-(k:Int)) q=m*10 ^ (-q).toNat):=aj (by unfold agL;rw[show((-(k:Int))).toNat=0 by omega];try simp);have HB:Hid (agR d (-(k:Int)) q=d*2 ^ k):=aj (by unfold agR;rw[show(-(-(k:Int))).toNat=k by omega,show q.toNat=0 by omega];try simp);have HY:=aj hy;have HD:=aj hd;have HM:=aj (ub hm);clear hy hd;have Pc:Hid (d*2 ^ k<Bs ^ KA):=aj (yh HD.out (by omega));have HB0:Hid (m<Bs ^ KA):=aj (aP HM.out kba);have hk2:k≤10000:=by omega
 go_enter Tryz.func84,Tryz.ntmps84
 go_wp2_with fail
 refine(ofR m _ hm).mono ?_;rintro e1 w1 ⟨a,rfl,ha,hb1⟩;have H1:=aj ha;have B1:=aj hb1;have xt:=aj (HY.out.on hb1);clear ha hb1;go_wp2_with fail
 refine(xT _ _ k _ xt.out HD.out hk2).mono ?_;rintro e2 w2 ⟨a2,rfl,ha2,hb2⟩;have H2:=aj ha2;have B2:=aj (B1.out.trans (hb2.mono B1.out.size));have O2:=aj (H1.out.on hb2);clear ha2 hb2;go_wp2_with fail
 refine(FU _ _ (-q) _ O2.out HB0.out (by omega) (by omega)).mono ?_;rintro e3 w3 ⟨a3,rfl,GA,hb3⟩;have H3:=aj GA;have B3:=aj (B2.out.trans (hb3.mono B2.out.size));have O3:=aj (H2.out.on hb3);clear GA hb3;go_wp2_with fail
 refine(Bk _ _ _ _ _ H3.out O3.out (sk HB0.out (by omega)) (aP Pc.out E8)).mono ?_;rintro e4 w4 ⟨r,rfl,hr1,hr2,hb4⟩;have R1:=aj hr1;have R2:=aj hr2;have B4:=aj (B3.out.trans (hb4.mono B3.out.size));clear hr1 hr2 hb4;go_wp2_with fail
 go_ret;exact⟨r,rfl,by rw[HA.out,HB.out];exact R1.out,by rw[HA.out,HB.out];exact R2.out,B4.out⟩
theorem sX (m:Nat) (e:Int) (y:Value) (d:Nat) (q:Int) (w:World) (hm:m<18446744073709551616) (he1:-9000≤e) (he2:e≤9000) (hq1:-900≤q) (hq2:q≤900) (hy:Num .u64 w y d) (hd:d<Bs ^ KB):
  Calls Tryz.prog 84 #[.int .u64 m,.int .i64 e,y,.int .i64 q] w (lj (agL m e q) (agR d e q) w):=by
 by_cases he:0≤e<;>by_cases hq:0≤q
 ·exact I0 m e y d q w hm he1 he2 hq1 hq2 hy hd he hq
 ·exact I1 m e y d q w hm he1 he2 hq1 hq2 hy hd he (by omega)
 ·exact I2 m e y d q w hm he1 he2 hq1 hq2 hy hd (by omega) hq
 ·exact I3 m e y d q w hm he1 he2 hq1 hq2 hy hd (by omega) (by omega)
def K75:Nat:=1075
theorem FE:K75=1075:=rfl
theorem py (q:Int):cC q=10 ^ (-q).toNat:=by
 unfold cC;split
 ·rw[show(-q).toNat=0 by omega,Nat.pow_zero]
 ·rfl
theorem jR (d:Nat) (q:Int):cN d q=d*10 ^ q.toNat*2 ^ K74:=by
 unfold cN;split
 ·rfl
 ·rw[show q.toNat=0 by omega,Nat.pow_zero]
theorem Me (m:Nat) (e q:Int) (d s:Nat) (hs:e+K75=s):∃ z,0<z∧agL m e q*z=m*2 ^ s*cC q∧agR d e q*z=d*10 ^ q.toNat*2 ^ K75:=by
 rw[py];unfold agL agR
 by_cases he:0≤e
 ·refine⟨2 ^ K75,bf (by decide),?_,?_⟩
  ·rw[show s=e.toNat+K75 by omega,aY];simp only[aA,aK (10 ^ (-q).toNat)]
  ·rw[show(-e).toNat=0 by omega,Nat.pow_zero,bB]
 ·refine⟨2 ^ s,bf (by decide),?_,?_⟩
  ·rw[show e.toNat=0 by omega,Nat.pow_zero,bB,aA,aA,aK (2 ^ s)]
  ·rw[show K75=(-e).toNat+s by omega,aY];simp only[aA,aK (10 ^ q.toNat)]
theorem mB {a b z:Nat} (hz:0<z):a<b↔a*z<b*z:=⟨fun h=>bq h hz,fun h=>eN h⟩
theorem Mg (m:Nat) (e q:Int) (d s:Nat) (hs:e+K75=s):(agL m e q<agR d e q↔m*2 ^ s*cC q<2*cN d q)∧(agR d e q<agL m e q↔2*cN d q<m*2 ^ s*cC q):=by
 obtain⟨z,hz,h1,h2⟩:=Me m e q d s hs
 have h3:d*10 ^ q.toNat*2 ^ K75=2*cN d q:=by rw[jR,show K75=K74+1 from rfl,Nat.pow_succ,←aA,aK]
 rw[h3] at h2;exact⟨by rw[mB hz,h1,h2],by rw[mB hz,h1,h2]⟩
theorem Bg (u:Nat):∃ s:Nat,pE u+K74=s∧pM u*2 ^ s=V u∧st u=2 ^ s:=by
 have xh:(4503599627370496:Nat)=B:=rfl;unfold pM pE;rw[xh]
 by_cases h:u<B
 ·have h0:u / B=0:=fa h;refine⟨0,?_,?_,?_⟩
  ·rw[aQ h0];decide
  ·rw[aQ h0,mR h];omega
  ·unfold st;rw[h0]
 ·obtain⟨e,m,rfl,h1,h2⟩:=wu u (by omega)
  have hd:(e*B+m) / B=e+1:=by rw[jC,Nat.add_mul_div_right _ _ (by decide:0<B)];rw[show m / B=1 from Nat.div_eq_of_lt_le (by omega) (by omega)];omega
  have hm:(e*B+m) % B+B=m:=by rw[jC (e*B) m,Nat.add_mul_mod_self_right,Nat.mod_eq_sub_mod h1,ej (by omega)];omega
  rw[hd,aJ (by omega),aJ (by omega),hm,rL e m h1 h2,u4 e m h1 h2];exact⟨e,by rw[nM];omega,rfl,rfl⟩
theorem GQ (u d:Nat) (q:Int):(agL (pM u) (pE u) q<agR d (pE u) q↔V u*cC q<cN d q)∧(agR d (pE u) q<agL (pM u) (pE u) q↔cN d q<V u*cC q):=by
 obtain⟨s,h1,h2,h3⟩:=Bg u;have h:=Mg (pM u) (pE u) q d (s+1) (by rw[FE];rw[nM] at h1;omega);rw[Nat.pow_succ,←aA,h2] at h;have e1:V u*2*cC q=2*(V u*cC q):=by rw[aK (V u) 2,aA]
 rw[e1] at h;exact⟨h.1.trans (by omega),h.2.trans (by omega)⟩
theorem Mf (u d:Nat) (q:Int):(agL (2*pM u+1) (pE u-1) q<agR d (pE u-1) q↔(V u+V (u+1))*cC q<2*cN d q)∧(agR d (pE u-1) q<agL (2*pM u+1) (pE u-1) q↔2*cN d q<(V u+V (u+1))*cC q):=by
 obtain⟨s,h1,h2,h3⟩:=Bg u;have h:=Mg (2*pM u+1) (pE u-1) q d s (by rw[FE];rw[nM] at h1;omega)
 have e1:(2*pM u+1)*2 ^ s=V u+V (u+1):=by rw[uN,bS,aA,h2,h3];omega
 rw[e1] at h;exact h
theorem Ge (u:Nat) (hu:u<9223372036854775808):-1074≤pE u∧pE u≤9000∧pM u<9007199254740992:=by
 unfold pE pM
 by_cases h:u / 4503599627370496=0
 ·rw[aQ h,aQ h];omega
 ·rw[aJ h,aJ h];omega
def SU (d:Nat) (q:Int) (u:Nat) (w:World) (e:Ending) (w':World):Prop:=∃ b,e=.returned (.bool b)∧(b=true↔eZ (cN d q) (cC q) u)∧Below w.heap.size w w'
set_option maxRecDepth 100000 in
theorem FL (y:Value) (d:Nat) (q:Int) (u:Nat) (w:World) (hu0:0<u) (hu:u<cD) (hq1:-900≤q) (hq2:q≤900) (hy:Num .u64 w y d) (hd:d<Bs ^ KB):
  Calls Tryz.prog 88 #[y,.int .i64 q,.int .u64 u] w (SU d q u w):=by
 have hub:u<9223372036854775808:=eI hu (by decide);obtain⟨v,rfl⟩:∃ v,u=v+1:=⟨u-1,by omega⟩;obtain⟨b1,b2,b3⟩:=Ge (v+1) hub;obtain⟨b4,b5,b6⟩:=Ge v (by omega);have c1:=Bh (v+1) w hub;have hM1:=Mf (v+1) d q;have hM2:=Mf v d q;have cA:Hid (∀ W,Num .u64 W y d→Calls Tryz.prog 84 #[.int .u64 (2*pM (v+1)+1:Nat),.int .i64 (pE (v+1)-1),y,.int .i64 q] W (lj (agL (2*pM (v+1)+1) (pE (v+1)-1) q) (agR d (pE (v+1)-1) q) W)):=aj fun W h=>sX _ _ y d q W (by omega) (by omega) (by omega) hq1 hq2 h hd
 have cB:Hid (∀ W,Num .u64 W y d→Calls Tryz.prog 84 #[.int .u64 (2*pM v+1:Nat),.int .i64 (pE v-1),y,.int .i64 q] W (lj (agL (2*pM v+1) (pE v-1) q) (agR d (pE v-1) q) W)):=aj fun W h=>sX _ _ y d q W (by omega) (by omega) (by omega) hq1 hq2 h hd
 obtain⟨L1,hL1⟩:∃ L,agL (2*pM (v+1)+1) (pE (v+1)-1) q=L:=⟨_,rfl⟩;obtain⟨R1,hR1⟩:∃ L,agR d (pE (v+1)-1) q=L:=⟨_,rfl⟩;obtain⟨L2,hL2⟩:∃ L,agL (2*pM v+1) (pE v-1) q=L:=⟨_,rfl⟩;obtain⟨R2,hR2⟩:∃ L,agR d (pE v-1) q=L:=⟨_,rfl⟩;rw[hL1,hR1] at cA hM1;rw[hL2,hR2] at cB hM2;clear hL1 hR1 hL2 hR2
 have lP:Hid (eZ (cN d q) (cC q) (v+1)↔((L2<R2∨(¬L2<R2∧¬R2<L2∧(v+1) % 2=0))∧(R1<L1∨(¬L1<R1∧¬R1<L1∧(v+1) % 2=0)))):=aj (by
  rw[hM1.1,hM1.2,hM2.1,hM2.2];constructor
  ·rintro⟨h1,h2⟩;simp only[cW] at h1;omega
  ·rintro⟨h1,h2⟩;refine⟨?_,?_⟩
   ·simp only[cW];omega
   ·omega)
 clear hM1 hM2;obtain⟨M1,hm1⟩:∃ M,pM (v+1)=M:=⟨_,rfl⟩;obtain⟨E1,he1⟩:∃ M,pE (v+1)=M:=⟨_,rfl⟩;obtain⟨M2,hm2⟩:∃ M,pM v=M:=⟨_,rfl⟩;obtain⟨E2,he2⟩:∃ M,pE v=M:=⟨_,rfl⟩;rw[hm1,he1] at c1 cA;rw[he1] at b1 b2;rw[hm1] at b3;rw[hm2,he2] at cB;rw[he2] at b4 b5;rw[hm2] at b6
 have jK:Hid (∀ W,Calls Tryz.prog 83 #[.int .u64 v] W fun e w'=>e=.returned (.tuple #[.int .u64 M2,.int .i64 E2])∧w'=W):=aj fun W=>by rw[←hm2,←he2];exact Bh v W (by omega)
 have HY:=aj hy;clear hm1 he1 hm2 he2 hy hd hu hu0;go_enter Tryz.func88,Tryz.ntmps88
 go_wp2_with fail
 refine c1.mono ?_;clear c1;rintro e w1 ⟨rfl,rfl⟩;go_wp2_with fail
 refine(cA.out _ HY.out).mono ?_;rintro e w2 ⟨r1,rfl,hr1,hr2,hb1⟩;have R1:=aj hr1;have R2:=aj hr2;have B1:=aj hb1;have xt:=aj (HY.out.on hb1);clear hr1 hr2 hb1
 rcases dy r1 0 with hr1|hr1|hr1
 ·go_wp2_with fail
  go_ret;exact⟨false,rfl,by rw[lP.out];have:=R1.out;have:=R2.out;simp;omega,B1.out⟩
 ·subst hr1
  rcases dK (v+1) with hp|hp
  ·have XT:((v:Int)+1) % 2=0:=by omega
   go_wp2_with fail
   refine(jK.out _).mono ?_;rintro e w3 ⟨rfl,rfl⟩;go_wp2_with fail
   refine(cB.out _ xt.out).mono ?_;rintro e w4 ⟨r2,rfl,hs1,hs2,hb2⟩;have S1:=aj hs1;have S2:=aj hs2;have B2:=aj (B1.out.trans (hb2.mono B1.out.size));clear hs1 hs2 hb2
   rcases dy r2 0 with hr2|hr2|hr2
   ·go_wp2_with fail
    go_ret;exact⟨_,rfl,by rw[lP.out];have:=R1.out;have:=S1.out;have:=R2.out;have:=S2.out;simp;omega,B2.out⟩
   ·subst hr2
    rcases dK (v+1) with hp2|hp2
    ·have hpi:((v:Int)+1) % 2=0:=by omega
     go_wp2_with fail
     go_ret;exact⟨_,rfl,by rw[lP.out];have:=R1.out;have:=S1.out;have:=R2.out;have:=S2.out;simp;omega,B2.out⟩
    ·have hpi:((v:Int)+1) % 2=1:=by omega
     go_wp2_with fail
     go_ret;exact⟨_,rfl,by rw[lP.out];have:=R1.out;have:=S1.out;have:=R2.out;have:=S2.out;simp;omega,B2.out⟩
   ·go_wp2_with fail
    go_ret;exact⟨_,rfl,by rw[lP.out];have:=R1.out;have:=S1.out;have:=R2.out;have:=S2.out;simp;omega,B2.out⟩
  ·have XT:((v:Int)+1) % 2=1:=by omega
   go_wp2_with fail
   go_ret;exact⟨false,rfl,by rw[lP.out];have:=R1.out;have:=R2.out;simp;omega,B1.out⟩
 ·skip
  go_wp2_with fail
  refine(jK.out _).mono ?_;rintro e w3 ⟨rfl,rfl⟩;go_wp2_with fail
  refine(cB.out _ xt.out).mono ?_;rintro e w4 ⟨r2,rfl,hs1,hs2,hb2⟩;have S1:=aj hs1;have S2:=aj hs2;have B2:=aj (B1.out.trans (hb2.mono B1.out.size));clear hs1 hs2 hb2
  rcases dy r2 0 with hr2|hr2|hr2
  ·go_wp2_with fail
   go_ret;exact⟨_,rfl,by rw[lP.out];have:=R1.out;have:=S1.out;have:=R2.out;have:=S2.out;simp;omega,B2.out⟩
  ·subst hr2
   rcases dK (v+1) with hp2|hp2
   ·have hpi:((v:Int)+1) % 2=0:=by omega
    go_wp2_with fail
    go_ret;exact⟨_,rfl,by rw[lP.out];have:=R1.out;have:=S1.out;have:=R2.out;have:=S2.out;simp;omega,B2.out⟩
   ·have hpi:((v:Int)+1) % 2=1:=by omega
    go_wp2_with fail
    go_ret;exact⟨_,rfl,by rw[lP.out];have:=R1.out;have:=S1.out;have:=R2.out;have:=S2.out;simp;omega,B2.out⟩
  ·go_wp2_with fail
   go_ret;exact⟨_,rfl,by rw[lP.out];have:=R1.out;have:=S1.out;have:=R2.out;have:=S2.out;simp;omega,B2.out⟩
structure FT (w:World):Prop where
 info:w.cell? ⟨9,0,none⟩=some (.int .u64 52)
 p10:∃ g o,w.cell? ⟨14,0,none⟩=some (.slice (some ⟨g,o,none⟩) 23 23)∧∀ i,i≤22→w.cell? ⟨g,o+i,none⟩=some (.float .f64 (jt.getD i 0))
theorem Ik {N N' D u u':Nat} (hD:0<D) (h:N≤N') (hu:eZ N D u) (hu':eZ N' D u'):u≤u':=by
 rcases dD u' u with hlt|hge
 ·have h1:2*N'≤(V u'+V (u'+1))*D:=by rcases hu'.hi with h|h<;>omega
  have h2:(V (u-1)+V u)*D≤2*N:=by rcases hu.lo with h|h|h<;>omega
  have h3:V u'≤V (u-1):=zN (by omega);have h4:V (u'+1)≤V u:=zN (by omega);have h6:(V u'+V (u'+1))*D≤(V (u-1)+V u)*D:=aI _ (by omega);have:N=N':=by omega
  subst this;exact Nat.le_of_eq (nh hD hu hu')
 ·exact hge
theorem pH {N D u:Nat} (hD:0<D) (h:N≤V (cD-1)*D) (hu:eZ N D u):u<cD:=by
 rcases dD u cD with h2|h2
 ·exact h2
 ·have h3:(V (u-1)+V u)*D≤2*N:=by
   have:cD=9218868437227405312:=rfl
   rcases hu.lo with h|h|h<;>omega
  have h4:V (cD-1)≤V (u-1):=zN (by omega)
  have h5:V (cD-1)<V u:=sZ (by
   have:cD=9218868437227405312:=rfl
   omega)
  have h6:2*(V (cD-1)*D)<(V (u-1)+V u)*D:=by rw[←aA];exact bq (by omega) hD
  omega
def uP (d:Nat) (p:Int) (neg:Bool) (w:World) (e:Ending) (w':World):Prop:=∃ x ok,e=.returned (.tuple #[.float .f64 x,.bool ok])∧(ok=true→∃ u,u<cD∧eZ (cN d p) (cC p) u∧x=sgw neg+u)∧w=w'
@[go_sem] theorem MN {P:Program} (w:World) (k:FloatKind) (b:Nat):(Op.unary .neg (.float k b)).run P w=.ok (.float k (Op.negFloat k b)) w:=by simp[Op.unary]
theorem vs (u:Nat) (h:u<cD):Op.negFloat .f64 u=sgw true+u:=by
 have hi:cD=9218868437227405312:=rfl
 have e:u ||| 9223372036854775808=u+9223372036854775808:=by rw[s9,oH 63 9223372036854775808 u (by decide) (by omega)];omega
 show u ^^^ 9223372036854775808=9223372036854775808+u
 have ha:u &&& 9223372036854775808=0:=by
  rw[BZ];have:u / 9223372036854775808=0:=by omega
  rw[this]
 have hx:u ^^^ 9223372036854775808=u ||| 9223372036854775808:=by
  apply nB
  intro i;have h1:(u &&& 9223372036854775808).testBit i=false:=by rw[ha];simp
  rw[lh] at h1;rw[k8,oV]
  cases hA:u.testBit i<;>cases hB:Nat.testBit 9223372036854775808 i<;>simp_all
 rw[hx,e];omega
def c15:Nat:=4831355200913801216
theorem tP:ur c15 1000000000000000∧c15<cD:=yA 15 (by decide)
theorem Gg (u:Nat) (hu:u<cD):∃ o,Ieee.double.order u 4831355200913801216=some o∧Ieee.double.order u 14054727237768577024=some .gt∧(o=.gt↔1000000000000000*2 ^ K74<V u):=by
 have h1:=kA false false u c15 hu tP.2;have h2:=kA false true u c15 hu tP.2;have hV:V c15=1000000000000000*2 ^ K74:=tP.1;have hp:0<2 ^ K74:=bf (by decide);rw[hV] at h1 h2;have z:sgw false=0:=rfl;have z1:sgw true=9223372036854775808:=rfl;rw[z,bD,bD] at h1;rw[z,z1,bD] at h2;generalize 2 ^ K74=T at *
 refine⟨_,h1,?_,?_⟩
 ·refine h2.trans ?_;rw[lr];simp only[sI,kY];simp;omega
 ·rw[iN];simp only[sI];simp;omega
theorem Gh (u:Nat) (hu:u<cD):∃ o,Ieee.double.order (sgw true+u) 4831355200913801216=some .lt∧Ieee.double.order (sgw true+u) 14054727237768577024=some o∧(o=.lt↔1000000000000000*2 ^ K74<V u):=by
 have h1:=kA true false u c15 hu tP.2;have h2:=kA true true u c15 hu tP.2;have hV:V c15=1000000000000000*2 ^ K74:=tP.1;have hp:0<2 ^ K74:=bf (by decide);rw[hV] at h1 h2;have z:sgw false=0:=rfl;rw[z,bD] at h1;generalize 2 ^ K74=T at *
 refine⟨_,?_,h2,?_⟩
 ·refine h1.trans ?_;rw[j8];simp only[sI,kY];simp;omega
 ·rw[iM];simp only[sI];simp;omega
theorem tu {n:Nat} (h:n≤10 ^ 300):n*2 ^ K74≤V (cD-1)*1:=by
 have:10 ^ 300*2 ^ K74≤V (cD-1)*1:=by decide +kernel
 exact aF (aI _ h) this
theorem YS:4503599627370496≤10 ^ 300:=by decide +kernel
theorem foi (d:Nat) (h0:0<d) (h:d<9007199254740992):∃ u,u<cD∧ur u d∧floatOfInt FloatKind.f64 (d:Int)=u:=by
 obtain⟨u,hu,hV,hfl⟩:=yO false d h0 h;refine⟨u,hu,hV,?_⟩
 have e:floatOfInt FloatKind.f64 (d:Int)=Ieee.double.nearest false d 0:=by
  show Ieee.double.write (.number (decide ((d:Int)<0)) (d:Int).natAbs 0)=_
  have:decide ((d:Int)<0)=false:=by simp
  rw[this];rfl
 rw[e,hfl];simp[sgw]
theorem U7 (d:Nat) (p:Int) (neg:Bool) (w:World) (hd:d<18446744073709551616) (hb:4503599627370496≤d) (hf:FT w):
  Calls Tryz.prog 267 #[.int .u64 d,.int .i64 p,.bool neg] w (uP d p neg w):=by
 have hi:=hf.info;have hn:((d:Int) / 4503599627370496 != 0)=true:=by simp;omega
 go_enter Tryz.func267,Tryz.ntmps267
 go_wp2
 go_ret2
 exact⟨_,false,rfl,(fun h=>by cases h),rfl⟩
theorem Ol (d:Nat) (neg:Bool) (w:World) (h0:0<d) (hb:d<4503599627370496) (hf:FT w):
  Calls Tryz.prog 267 #[.int .u64 d,.int .i64 0,.bool neg] w (uP d 0 neg w):=by
 have hi:=hf.info;have hn:((d:Int) / 4503599627370496 != 0)=false:=by simp;omega
 obtain⟨u,hu,hV,hfl⟩:=foi d h0 (by omega);have hneg:=vs u hu
 have hfin:Hid (∃ u',u'<cD∧eZ (cN d 0) (cC 0) u'∧sgw neg+u=sgw neg+u'):=aj ⟨u,hu,by
  have:cN d 0=d*2 ^ K74:=by unfold cN;simp
  rw[this];exact rh hV,rfl⟩
 clear hV hu;cases neg
 ·go_enter Tryz.func267,Tryz.ntmps267
  go_wp2
  go_ret2
  refine⟨u,true,rfl,fun _=>?_,rfl⟩;have:=hfin.out
  rwa [show sgw false+u=u from bD u] at this
 ·go_enter Tryz.func267,Tryz.ntmps267
  go_wp2
  go_ret2
  exact⟨_,true,rfl,fun _=>hfin.out,rfl⟩
theorem Ss (d:Nat) (p:Int) (neg:Bool) (w:World) (hb:d<4503599627370496) (hp:p < -22∨37<p) (hf:FT w):
  Calls Tryz.prog 267 #[.int .u64 d,.int .i64 p,.bool neg] w (uP d p neg w):=by
 have hi:=hf.info;have hn:((d:Int) / 4503599627370496 != 0)=false:=by simp;omega
 have hz:(p == 0)=false:=by simp;omega
 cases neg<;>rcases hp with hp|hp
 all_goals
  go_enter Tryz.func267,Tryz.ntmps267
  go_wp2
  go_ret2
  exact⟨_,false,rfl,(fun h=>by cases h),rfl⟩
theorem St (d k:Nat) (neg:Bool) (w:World) (h0:0<d) (hb:d<4503599627370496) (hk:1≤k) (hk2:k≤22) (hf:FT w):
  Calls Tryz.prog 267 #[.int .u64 d,.int .i64 (-(k:Int)),.bool neg] w (uP d (-(k:Int)) neg w):=by
 have hi:=hf.info;obtain⟨g,o,hg,hcA⟩:=hf.p10;have hc:=hcA k hk2;clear hcA;have hn:((d:Int) / 4503599627370496 != 0)=false:=by simp;omega
 have hz:(-(k:Int) == 0)=false:=by simp;omega
 obtain⟨u,hu,hV,hfl⟩:=foi d h0 (by omega);have hneg:=vs u hu;obtain⟨i1,i2⟩:=yA k hk2;obtain⟨v,hv⟩:∃ v,jt.getD k 0=v:=⟨_,rfl⟩;rw[hv] at hc i1 i2;obtain⟨r,hr,er⟩:=LO (s:=neg) (t:=false) hu i2 hV i1 h0 (bf (by decide))
 have lP:eZ (cN d (-(k:Int))) (cC (-(k:Int))) r:=by unfold cN cC;rw[aJ (by omega),aJ (by omega),bB,show(- -(k:Int)).toNat=k by omega];exact hr
 have Gv:r<cD:=by refine pH (bf (by decide)) ?_ hr;have:=tu (n:=d) (aF (bW hb) YS);rw[bB] at this;exact aF this (Nat.le_mul_of_pos_right _ (bf (by decide)))
 rw[dB (bW Gv)] at er;have hfin:Hid (∃ u',u'<cD∧eZ (cN d (-(k:Int))) (cC (-(k:Int))) u'∧sgw neg+r=sgw neg+u'):=aj ⟨r,Gv,lP,rfl⟩;have zf:sgw false=0:=rfl;clear hV hu i1 i2 hr lP Gv hv hb;cases neg
 ·have hq:=fun w=>eJ (P:=Tryz.prog) w .quo 52 .f64 u v r (by show Ieee.double.div u v=some r;simpa[sgw] using er)
  clear er;go_enter Tryz.func267,Tryz.ntmps267
  go_wp2
  go_ret2
  refine⟨r,true,rfl,fun _=>?_,rfl⟩;have:=hfin.out
  rwa [show sgw false+r=r from bD r] at this
 ·have hq:=fun w=>eJ (P:=Tryz.prog) w .quo 52 .f64 (sgw true+u) v (sgw true+r) (by show Ieee.double.div (sgw true+u) v=some (sgw true+r);simpa[sgw] using er)
  clear er zf;go_enter Tryz.func267,Tryz.ntmps267
  go_wp2
  go_ret2
  exact⟨_,true,rfl,fun _=>hfin.out,rfl⟩
theorem Sr (d k:Nat) (neg:Bool) (w:World) (h0:0<d) (hb:d<4503599627370496) (hk:1≤k) (hk2:k≤22) (hf:FT w):
  Calls Tryz.prog 267 #[.int .u64 d,.int .i64 (k:Int),.bool neg] w (uP d (k:Int) neg w):=by
 have hi:=hf.info;obtain⟨g,o,hg,hcA⟩:=hf.p10;have hc:=hcA k hk2;clear hcA;have hn:((d:Int) / 4503599627370496 != 0)=false:=by simp;omega
 have hz:((k:Int) == 0)=false:=by simp;omega
 obtain⟨u,hu,hV,hfl⟩:=foi d h0 (by omega);have hneg:=vs u hu;obtain⟨i1,i2⟩:=yA k hk2;obtain⟨v,hv⟩:∃ v,jt.getD k 0=v:=⟨_,rfl⟩;rw[hv] at hc i1 i2;obtain⟨r,hr,er⟩:=yI (s:=neg) (t:=false) hu i2 hV i1 h0 (bf (by decide))
 have lP:eZ (cN d (k:Int)) (cC (k:Int)) r:=by unfold cN cC;rw[aQ (by omega),aQ (by omega),Int.toNat_natCast];exact hr
 have Gv:r<cD:=by refine pH (by decide) (tu ?_) hr;have:10 ^ k≤10 ^ 22:=aS (by decide) hk2;exact aF (gK (bW hb) this) (by decide +kernel)
 rw[dB (bW Gv)] at er;have hfin:Hid (∃ u',u'<cD∧eZ (cN d (k:Int)) (cC (k:Int)) u'∧sgw neg+r=sgw neg+u'):=aj ⟨r,Gv,lP,rfl⟩;have hop:=Gg u hu;have hon:=Gh u hu;clear hV hu i1 i2 hr lP Gv hv hb;cases neg
 ·have hq:=fun w=>eJ (P:=Tryz.prog) w .mul 52 .f64 u v r (by show Ieee.double.mul u v=some r;simpa[sgw] using er)
  obtain⟨o,o1,o2,_⟩:=hop
  replace o1:FloatKind.f64.format.order u 4831355200913801216=some o:=o1
  replace o2:FloatKind.f64.format.order u 14054727237768577024=some .gt:=o2
  clear er hon
  rcases o with _|_|_
  all_goals
   go_enter Tryz.func267,Tryz.ntmps267
   go_wp2
   go_ret2
   first
    | exact⟨_,false,rfl,(fun h=>by cases h),rfl⟩
    | exact⟨r,true,rfl,(fun _=>by have:=hfin.out;rwa [show sgw false+r=r from bD r] at this),rfl⟩
 ·have hq:=fun w=>eJ (P:=Tryz.prog) w .mul 52 .f64 (sgw true+u) v (sgw true+r) (by show Ieee.double.mul (sgw true+u) v=some (sgw true+r);simpa[sgw] using er)
  obtain⟨o,o1,o2,_⟩:=hon
  replace o1:FloatKind.f64.format.order (sgw true+u) 4831355200913801216=some .lt:=o1
  replace o2:FloatKind.f64.format.order (sgw true+u) 14054727237768577024=some o:=o2
  clear er hop
  rcases o with _|_|_
  all_goals
   go_enter Tryz.func267,Tryz.ntmps267
   go_wp2
   go_ret2
   first
    | exact⟨_,false,rfl,(fun h=>by cases h),rfl⟩
    | exact⟨_,true,rfl,(fun _=>hfin.out),rfl⟩
end fl
end Go.Proofs.YthpdlidbaojlbaaGreatDoor
