/- The contract of internal/strconv.pack64 and of parseFloat64: -/
import Derived.Test.YthpdlidbaojlbaaGreatDoorQ21
import Derived.Test.YthpdlidbaojlbaaGreatDoorShelf
set_option linter.unusedVariables false
set_option linter.unusedSimpArgs false
set_option maxHeartbeats 4000000
open Go.ChangeShapes Go.WideShapes Go.ChangeAt Go.RowKit
namespace Go.Proofs.YthpdlidbaojlbaaGreatDoor
namespace fl
def Bs:Nat:=4294967296
def dA:List Nat→Nat
 | []=>0
 | d::t=>d+Bs*dA t
def kF (l:List Nat):Prop:=∀ d∈l,d<Bs
def Can (l:List Nat):Prop:=kF l∧∀ d,l.getLast?=some d→d≠0
def KA:Nat:=10000
def KB:Nat:=1000
def KC:Nat:=100000
theorem kac:KA+KB≤KC:=by decide
theorem gB:0<Bs:=by decide
theorem zj (k:Nat):0<Bs ^ k:=bf gB
theorem sD (a b:List Nat):dA (a++b)=dA a+Bs ^ a.length*dA b:=by
 induction a with
 | nil=>simp[dA]
 | cons d t ih=>simp only[List.cons_append,dA,ih,List.length_cons,Nat.pow_succ,dF];rw[aK (Bs ^ t.length) Bs,aA];omega
theorem mC (a:List Nat) (d:Nat):dA (a++[d])=dA a+Bs ^ a.length*d:=by rw[sD];simp[dA]
theorem kF.nil:kF []:=fun _ h=>by cases h
theorem kF.snoc {a:List Nat} {d:Nat} (h:kF a) (hd:d<Bs):kF (a++[d]):=by
 intro x hx
 rcases bj.mp hx with h1|h1
 ·exact h x h1
 ·simp only[ij] at h1;exact h1 ▸ hd
theorem kF.take {l:List Nat} (h:kF l) (k:Nat):kF (l.take k):=fun d hd=>h d (gL hd)
theorem kF.get {l:List Nat} (h:kF l) (i:Nat):l.getD i 0<Bs:=by
 rw[az]
 cases hh:l[i]? with
 | none=>exact gB
 | some d=>exact h d (aB hh)
theorem Bq {l:List Nat} (h:kF l):dA l<Bs ^ l.length:=by
 induction l with
 | nil=>simp[dA]
 | cons d t ih=>have h1:=h d (by simp);have h2:=ih (fun x hx=>h x (by simp[hx]));simp only[dA,List.length_cons,Nat.pow_succ];have h3:Bs*(dA t+1)≤Bs*Bs ^ t.length:=bG _ h2;rw[aK (Bs ^ t.length) Bs];rw[dF] at h3;omega
theorem jY {l:List Nat} {k:Nat} (hk:k<l.length):l.take (k+1)=l.take k++[l.getD k 0]:=by rw[c8,az,ag hk];simp
theorem j4 {l:List Nat} {k:Nat} (hk:k<l.length):dA (l.take (k+1))=dA (l.take k)+Bs ^ k*l.getD k 0:=by rw[jY hk,mC,aR,dB (bW hk)]
theorem oM {l:List Nat} {k:Nat} (hk:k<l.length):dA l=dA (l.take k)+Bs ^ k*(l.getD k 0+Bs*dA (l.drop (k+1))):=by
 have h:l=l.take k++(l.getD k 0::l.drop (k+1)):=by rw[az,ag hk];simp
 have h2:=congrArg dA h;rw[sD,aR,dB (bW hk)] at h2;exact h2
theorem rj {l:List Nat} (h:kF l) {k:Nat} (hk:k≤l.length):dA (l.take k)<Bs ^ k:=by
 have:=Bq (h.take k)
 rwa [aR,dB hk] at this
theorem BV {l:List Nat} (h:Can l) (hne:l≠[]):Bs ^ (l.length-1)≤dA l:=by
 have hp:0<l.length:=bZ.mpr hne;obtain⟨n,hn⟩:∃ n,l.length=n+1:=⟨l.length-1,by omega⟩;have hk:n<l.length:=by omega
 rw[oM hk,hn,cW]
 have hd:l.getD n 0≠0:=by refine h.2 _ ?_;rw[iy,hn,cW,az,ag hk];rfl
 have h3:Bs ^ n*1≤Bs ^ n*(l.getD n 0+Bs*dA (l.drop (n+1))):=bG _ (by omega);omega
theorem OB {l:List Nat} (h:Can l) (hne:l≠[]):0<dA l:=aP (zj _) (BV h hne)
theorem BU:Can []:=⟨kF.nil,fun d h=>by simp at h⟩
theorem oS {a b:List Nat} (ha:Can a) (hb:Can b) (h:a.length<b.length):dA a<dA b:=by have h1:=Bq ha.1;have h2:=BV hb (ix (by omega));have h3:Bs ^ a.length≤Bs ^ (b.length-1):=aS gB (by omega);omega
theorem uM {a b:List Nat} (ha:Can a) (hb:Can b) (h:dA a≤dA b):a.length≤b.length:=by
 by_cases hh:b.length<a.length
 ·have:=oS hb ha hh;omega
 ·omega
theorem zM {a:List Nat} (ha:Can a) {k:Nat} (h:dA a<Bs ^ k):a.length≤k:=by
 by_cases hh:a.length≤k
 ·exact hh
 ·have h2:=BV ha (ix (by omega));have h3:Bs ^ k≤Bs ^ (a.length-1):=aS gB (by omega);omega
theorem qb {a:List Nat} (ha:Can a) (h:dA a<Bs ^ KC):a.length≤100000:=by have h1:=zM ha h;exact h1
theorem iD {a b:List Nat} (ha:kF a) {i:Nat} (hia:i<a.length) (hib:i<b.length) (he:dA (a.drop (i+1))=dA (b.drop (i+1))) (h:a.getD i 0<b.getD i 0):dA a<dA b:=by rw[oM hia,oM hib,he];have h1:=rj ha (bW hia);have h2:Bs ^ i*(a.getD i 0+Bs*dA (b.drop (i+1))+1)≤Bs ^ i*(b.getD i 0+Bs*dA (b.drop (i+1))):=bG _ (by omega);rw[dF _ _ 1,bB] at h2;omega
theorem tG {l:List Nat} {i:Nat} (hi:i<l.length):dA (l.drop i)=l.getD i 0+Bs*dA (l.drop (i+1)):=by rw[eT hi,az,ag hi];rfl
theorem Kv {xs l:List Nat} {m c k r q:Nat} (hk:k<l.length) (hl:xs.length=k) (h:dA xs+Bs ^ k*c=dA (l.take k)*m) (he:c+l.getD k 0*m=r+Bs*q):
  dA (xs++[r])+Bs ^ (k+1)*q=dA (l.take (k+1))*m:=by
 rw[mC,hl,j4 hk,bS,Nat.pow_succ];have h1:Bs ^ k*(c+l.getD k 0*m)=Bs ^ k*(r+Bs*q):=by rw[he]
 rw[dF,dF,←aA,←aA] at h1;omega
theorem Ak {c d m q r:Nat} (hc:c<Bs) (hd:d<Bs) (hm:m<Bs) (he:c+d*m=r+Bs*q):q<Bs:=by
 have h1:d*m≤(Bs-1)*(Bs-1):=gK (by omega) (by omega);have h2:(Bs-1)*(Bs-1)=18446744065119617025:=by decide
 have h3:Bs=4294967296:=rfl;rw[h3] at hc h1 h2 he ⊢;omega
theorem JG {xs a b:List Nat} {k w c c2 d:Nat} (hk:k<a.length) (hl:xs.length=k) (h:dA xs+dA (b.take k)=dA (a.take k)+Bs ^ k*c)
  (hb:dA (b.take (k+1))=dA (b.take k)+Bs ^ k*w) (he:d+w+c=a.getD k 0+Bs*c2):
  dA (xs++[d])+dA (b.take (k+1))=dA (a.take (k+1))+Bs ^ (k+1)*c2:=by
 rw[mC,hl,j4 hk,hb,Nat.pow_succ];have h1:Bs ^ k*(d+w+c)=Bs ^ k*(a.getD k 0+Bs*c2):=by rw[he]
 rw[dF,dF,dF,←aA] at h1;omega
theorem zG {b:List Nat} {k:Nat} (hk:b.length≤k):dA (b.take (k+1))=dA (b.take k)+Bs ^ k*0:=by rw[aE hk,aE (by omega)];simp
theorem uE (n:Nat) (l:List Nat):dA (List.replicate n 0++l)=Bs ^ n*dA l:=by
 rw[sD,dj]
 have:∀ n,dA (List.replicate n 0)=0:=by
  intro n;induction n with
  | zero=>rfl
  | succ n ih=>simp[List.replicate_succ,dA,ih]
 rw[this];omega
theorem AB {l:List Nat} (h:Can l) (hne:l≠[]) (n:Nat):Can (List.replicate n 0++l):=by
 refine⟨?_,?_⟩
 ·intro d hd
  rcases bj.mp hd with h1|h1
  ·rw[kU h1];exact gB
  ·exact h.1 d h1
 ·intro d hd;rw[List.getLast?_append] at hd
  obtain⟨e,he⟩:∃ e,l.getLast?=some e:=by
   cases hh:l.getLast? with
   | none=>simp at hh;exact absurd hh hne
   | some e=>exact⟨e,rfl⟩
  rw[he] at hd;simp at hd;exact h.2 d (hd ▸ he)
theorem DS {l:List Nat} {d:Nat} (h:kF l) (hd:d<Bs) (h0:d≠0):Can (l++[d]):=⟨h.snoc hd,fun e he=>by simp at he;exact he ▸ h0⟩
theorem Iy {l:List Nat} (h:kF l) {n t:Nat} (hn:l.length=n+1) (h1:2 ^ t≤l.getD n 0) (h2:l.getD n 0<2 ^ (t+1)):2 ^ (32*n+t)≤dA l∧dA l<2 ^ (32*n+t+1):=by
 have hk:n<l.length:=by omega
 have hb:Bs ^ n=2 ^ (32*n):=by rw[show Bs=2 ^ 32 from rfl,←s8]
 have h3:=rj h (bW hk);have hd:l.drop (n+1)=[]:=eY (by omega);rw[oM hk,hd];simp only[dA,Nat.mul_zero,Nat.add_zero];rw[hb] at h3 ⊢;rw[fW,aY,aY 2 (32*n) (t+1)];have h4:2 ^ (32*n)*2 ^ t≤2 ^ (32*n)*l.getD n 0:=bG _ h1;have h5:2 ^ (32*n)*(l.getD n 0+1)≤2 ^ (32*n)*2 ^ (t+1):=bG _ h2;rw[dF] at h5;constructor<;>omega
def El (p:Int) (x:Nat×Nat):Bool:=decide (2 ^ 137*PA p+x.2*PM p≤x.1*W*PM p) && decide (x.1*W*PM p<2 ^ 137*PA p+x.2*PM p+PM p) && decide (1<x.1) && decide (x.1<W) && decide (x.2<W)
def uW:Int→List (Nat×Nat)→Bool
 | _,[]=>true
 | p,c::r=>El p c && uW (p+1) r
theorem yo:∀ {l:List (Nat×Nat)} {p:Int},uW p l=true→∀ (i:Nat) (c:Nat×Nat),l[i]?=some c→El (p+i) c=true
 | [],p,h,i,c,hc=>by simp at hc
 | d::r,p,h,0,c,hc=>by simp only[uW,cQ] at h;simp at hc;subst hc;simpa using h.1
 | d::r,p,h,i+1,c,hc=>by simp only[uW,cQ] at h;simp at hc;have:=yo h.2 i c hc;rw[show p+((i+1:Nat):Int)=p+1+i by omega];exact this
set_option maxRecDepth 100000 in
theorem Qc:uW (-348) Go.Pinned.pow10Rows=true:=by decide +kernel
set_option maxRecDepth 100000 in
theorem wY:Go.Pinned.pow10Rows.length=696:=by decide +kernel
def tHi (i:Nat):Nat:=(Go.Pinned.pow10Rows.getD i (0,0)).1
def tLo (i:Nat):Nat:=(Go.Pinned.pow10Rows.getD i (0,0)).2
theorem JD (p:Int) (h1:-348≤p) (h2:p≤347):
  2 ^ 137*PA p+tLo (p+348).toNat*PM p≤tHi (p+348).toNat*W*PM p∧tHi (p+348).toNat*W*PM p<2 ^ 137*PA p+tLo (p+348).toNat*PM p+PM p∧1<tHi (p+348).toNat∧tHi (p+348).toNat<W∧tLo (p+348).toNat<W:=by
 have hi:(p+348).toNat<Go.Pinned.pow10Rows.length:=by rw[wY];omega
 have:=yo Qc (p+348).toNat _ (ag hi);rw[show(-348:Int)+((p+348).toNat:Int)=p by omega] at this;simp only[El,cQ,dr] at this;unfold tHi tLo;rw[az,ag hi];exact⟨this.1.1.1.1,this.1.1.1.2,this.1.1.2,this.1.2,this.2⟩
theorem P6 {d b:Nat} {p s:Int} (hb1:2 ^ b≤2*d) (hb2:d<2 ^ b) (hb:b≤64) (h1:-345≤p) (h2:p≤310) (k:Nat) (hk:s=8+k):
  usc (d*2 ^ (64-b)) (tHi (p+348).toNat) (tLo (p+348).toNat) s.toNat=unr (d*2 ^ (64-b)*PA p) (PM p*2 ^ k):=by
 have hx1:9223372036854775808≤d*2 ^ (64-b):=by have e1:2 ^ b*2 ^ (64-b)≤2*d*2 ^ (64-b):=aI _ hb1;rw[←aY,eB hb,aA] at e1;omega
 have hx2:d*2 ^ (64-b)<18446744073709551616:=by have e1:d*2 ^ (64-b)<2 ^ b*2 ^ (64-b):=bq hb2 (bf (by decide));rw[←aY,eB hb] at e1;omega
 obtain⟨t1,t2,t3,t4,t5⟩:=JD p (by omega) (by omega);have:=P5 (s:=s.toNat) hx1 hx2 t3 t5 (by omega) (FD p) (fun m=>far p h1 h2 _ m hx1 hx2) t1 t2;rw[this,show s.toNat-8=k by omega];rfl
theorem qT {a b:Int} (h:a=b):Ending.returned (.int .u64 a)=.returned (.int .u64 b):=by rw[h]
theorem E0 (x:Int) (w:World) (h1:-1000≤x) (h2:x≤1000):
  Calls Tryz.prog 275 #[.int .i64 x] w fun e w'=>e=.returned (.int .i64 (lpI x))∧w=w':=by
 go_enter Tryz.func275,Tryz.ntmps275
 go_wp2
 go_ret;exact⟨rfl,rfl⟩
theorem P8 (x:Nat) (w:World) (h1:1≤x) (h2:x<4611686018427387904):
  Calls Tryz.prog 278 #[.int .u64 x] w fun e w'=>e=.returned (.int .u64 (4*x-2:Nat))∧w=w':=by
 go_enter Tryz.func278,Tryz.ntmps278
 go_wp2
 go_ret;exact⟨qT (by omega),rfl⟩
theorem JR (x:Nat) (w:World) (h2:x<9223372036854775808):
  Calls Tryz.prog 280 #[.int .u64 x] w fun e w'=>e=.returned (.int .u64 ((x+1+x / 4 % 2) / 4:Nat))∧w=w':=by
 have hb:=and_one_u64 ((x:Int) / 4) (by omega) (by omega);go_enter Tryz.func280,Tryz.ntmps280
 go_wp2
 go_ret;refine⟨qT ?_,rfl⟩
 first|omega|(rw[gM _ (by omega)];omega)
theorem rI (b:Bool) (w:World):
  Calls Tryz.prog 265 #[.bool b] w fun e w'=>e=.returned (.int .u64 (if b then 1 else 0))∧w=w':=by
 cases b <;>
 ·go_enter Tryz.func265,Tryz.ntmps265
  go_wp2
  go_ret;exact⟨rfl,rfl⟩
theorem L7 (b:Bool) (w:World):
  Calls Tryz.prog 202 #[.bool b] w fun e w'=>e=.returned (.int .i64 (if b then 1 else 0))∧w=w':=by
 cases b <;>
 ·go_enter Tryz.func202,Tryz.ntmps202
  go_wp2
  go_ret;exact⟨rfl,rfl⟩
def P10 (w:World):Prop:=∀ i,i<696→w.cell? ⟨15,i*2,none⟩=some (.int .u64 (tHi i))∧w.cell? ⟨15,i*2+1,none⟩=some (.int .u64 (tLo i))
theorem Hs (p e s:Int) (w:World) (h1:-345≤p) (h2:p≤310) (he1:-10000≤e) (he2:e≤10000) (hp:P10 w):
  Calls Tryz.prog 276 #[.pointer (some ⟨w.heap.size,0,none⟩),.int .i64 e,.int .i64 p,.int .i64 (lpI p)] (w.alloc (.cells #[.int .u64 0,.int .u64 0,.int .i64 0] 376)) fun e' w'=>e'=.returned (.tuple #[])∧w.alloc (.cells #[.int .u64 (tHi (p+348).toNat),.int .u64 (tLo (p+348).toNat),.int .i64 (-(e+lpI p+3))] 376)=w':=by
 have hl1:-1200≤lpI p:=by unfold lpI;omega
 have hl2:lpI p≤1100:=by unfold lpI;omega
 obtain⟨i,hi⟩:∃ i:Nat,p=(i:Int)-348:=⟨(p+348).toNat,by omega⟩;obtain⟨l,hl⟩:∃ l,lpI p=l:=⟨_,rfl⟩;rw[hl] at hl1 hl2 ⊢;clear hl;subst hi;rw[show((i:Int)-348+348).toNat=i by omega];obtain⟨c1,c2⟩:=hp i (by omega);have c1:∀ o,(w.alloc o).cell? ⟨15,i*2,none⟩=some (.int .u64 (tHi i)):=fun o=>(World.cell?_alloc_lt _ _ _ (du _ _ c1)).trans c1
 have c2:∀ o,(w.alloc o).cell? ⟨15,i*2+1,none⟩=some (.int .u64 (tLo i)):=fun o=>(World.cell?_alloc_lt _ _ _ (du _ _ c2)).trans c2
 clear hp;go_enter Tryz.func276,Tryz.ntmps276
 go_wp2
 go_end0
 exact⟨rfl,rfl⟩
theorem Fb (s:Nat) (hs:s<64):bits BinOp.and IntKind.i64 (s:Int) 63=s:=by
 show IntKind.i64.wrap ((BitVec.ofInt 64 (s:Int) &&& BitVec.ofInt 64 63).toNat:Int)=_
 have e:(BitVec.ofInt 64 (63:Int)).toNat=63:=by decide
 rw[BitVec.toNat_and,ofInt_u64 s (by omega),e,nat_mask6,ej hs,kt _ (by omega)]
theorem Na (x hi lo s:Nat) (b:Nat) (w:World) (hx:x<18446744073709551616) (hh:hi<18446744073709551616) (hl:lo<18446744073709551616) (hs:s<64) (hpos:18446744073709551616≤x*hi)
  (c0:w.cell? ⟨b,0,none⟩=some (.int .u64 hi)) (c1:w.cell? ⟨b,1,none⟩=some (.int .u64 lo)) (c2:w.cell? ⟨b,2,none⟩=some (.int .i64 s)):
  Calls Tryz.prog 277 #[.int .u64 x,.pointer (some ⟨b,0,none⟩)] w fun e w'=>e=.returned (.int .u64 (usc x hi lo s))∧∃ n,w'=w.drewN n:=by
 have hand:=Fb s hs;obtain⟨H,hH⟩:∃ H,x*hi / 18446744073709551616=H:=⟨_,rfl⟩;obtain⟨M,hM⟩:∃ H,x*hi % 18446744073709551616=H:=⟨_,rfl⟩;obtain⟨L,hL⟩:∃ H,x*lo / 18446744073709551616=H:=⟨_,rfl⟩;obtain⟨L2,hL2⟩:∃ H,x*lo % 18446744073709551616=H:=⟨_,rfl⟩;have hM1:M<18446744073709551616:=by omega
 have hH1:H<18446744073709551616:=by have:x*hi<18446744073709551616*18446744073709551616:=mI hx hh;omega
 have hH0:1≤H:=by omega
 have hL1:L<18446744073709551616:=by have:x*lo<18446744073709551616*18446744073709551616:=mI hx hl;omega
 obtain⟨D,hD⟩:∃ D,(M+18446744073709551616-L) % 18446744073709551616=D:=⟨_,rfl⟩;have hwr:IntKind.u64.wrap ((M:Int)-L)=D:=by rw[gY];omega
 have Ut:usc x hi lo s=if H / 2 ^ s*2 ^ s≠H then H / 2 ^ s ||| 1 else (H-(if M<L then 1 else 0)) / 2 ^ s ||| (if 1<D then 1 else 0):=by unfold usc;simp only[W,hH,hM,hL,hD]
 have cM:=Tryz.bits_Mul64 x hi hx hh w;have cL:=Tryz.bits_Mul64 x lo hx hl w;rw[hH,hM] at cM;rw[hL,hL2] at cL;have HU:=aj Ut;have h2:(2:Nat) ^ s ≥ 1:=bf (by decide);have hq:H / 2 ^ s≤H:=gm _ _;have hqm:H / 2 ^ s*2 ^ s≤H:=Nat.div_mul_le_self _ _
 have Wj:IntKind.u64.wrap ((H:Int) / 2 ^ s*2 ^ s)=((H / 2 ^ s*2 ^ s:Nat):Int):=by rw[show(H:Int) / 2 ^ s*2 ^ s=((H / 2 ^ s*2 ^ s:Nat):Int) by simp];exact gM _ (by omega)
 have YP:∀ q d:Nat,q<18446744073709551616→d≤1→bits BinOp.or IntKind.u64 (q:Int) (d:Int)=((q ||| d:Nat):Int):=fun q d hq hd=>mu q d hq (by omega)
 have eq1:∀ d:Nat,d≤1→bits BinOp.or IntKind.u64 (((H:Int)-1) / 2 ^ s) (d:Int)=(((H-1) / 2 ^ s ||| d:Nat):Int):=fun d hd=>by rw[←YP _ d (cE (gm (H-1) (2 ^ s)) (by omega)) hd];rw[Int.natCast_ediv,nN hH0];simp
 have YO:∀ d:Nat,d≤1→bits BinOp.or IntKind.u64 ((H:Int) / 2 ^ s) (d:Int)=((H / 2 ^ s ||| d:Nat):Int):=fun d hd=>by rw[←YP _ d (cE (gm H (2 ^ s)) (by omega)) hd];simp
 have e11:=eq1 1 (by decide);have e10:=eq1 0 (by decide);have e01:=YO 1 (by decide);have U9:=YO 0 (by decide);simp only[Int.natCast_one,Int.natCast_zero] at e11 e10 e01 U9;clear hH hM hL hL2 hD Ut YP YO eq1 hh hl
 by_cases hc:H / 2 ^ s*2 ^ s=H
 ·have hb:(IntKind.u64.wrap ((H:Int) / 2 ^ s*2 ^ s) != (H:Int))=false:=by rw[Wj,hc];simp
  have hu:Hid (usc x hi lo s=(H-if M<L then 1 else 0) / 2 ^ s ||| if 1<D then 1 else 0):=aj (by rw[HU.out,aJ (by simpa using hc)]);clear Wj hqm HU hc
  by_cases hlt:M<L<;>by_cases hd:1<D
  ·have h2:decide ((1:Int)<D)=true:=by simp;omega
   have hf:Hid ((usc x hi lo s:Nat)=(H-1) / 2 ^ s ||| 1):=aj (by rw[hu.out,aQ hlt,aQ hd]);clear hd hu e10 e01 U9;go_enter Tryz.func277,Tryz.ntmps277
   go_wp2_with fail
   refine cM.mono ?_;clear cM;rintro e w1 ⟨rfl,rfl⟩;go_wp2_with fail
   refine cL.mono ?_;clear cL;rintro e w1 ⟨rfl,rfl⟩;go_wp2_with (go_at_call 265;refine(rI _ _).mono ?_;rintro e w' ⟨rfl,rfl⟩)
   go_quiet ((go_at_call 265;exact dJ ((rI _ _).mono fun _ _ h=>⟨h.1,h.2.symm⟩)))
   go_wp2
   go_ret;exact⟨qT (by rw[hf.out]),_,rfl⟩
  ·have h2:decide ((1:Int)<D)=false:=by simp;omega
   have hf:Hid ((usc x hi lo s:Nat)=(H-1) / 2 ^ s ||| 0):=aj (by rw[hu.out,aQ hlt,aJ hd]);clear hd hu e11 e01 U9;go_enter Tryz.func277,Tryz.ntmps277
   go_wp2_with fail
   refine cM.mono ?_;clear cM;rintro e w1 ⟨rfl,rfl⟩;go_wp2_with fail
   refine cL.mono ?_;clear cL;rintro e w1 ⟨rfl,rfl⟩;go_wp2_with (go_at_call 265;refine(rI _ _).mono ?_;rintro e w' ⟨rfl,rfl⟩)
   go_quiet ((go_at_call 265;exact dJ ((rI _ _).mono fun _ _ h=>⟨h.1,h.2.symm⟩)))
   go_wp2
   go_ret;exact⟨qT (by rw[hf.out,pS];simp),_,rfl⟩
  ·have hle:L≤M:=by omega
   have h2:decide ((1:Int)<D)=true:=by simp;omega
   have hf:Hid ((usc x hi lo s:Nat)=H / 2 ^ s ||| 1):=aj (by rw[hu.out,aJ hlt,aQ hd];rfl);clear hd hu e11 e10 U9;go_enter Tryz.func277,Tryz.ntmps277
   go_wp2_with fail
   refine cM.mono ?_;clear cM;rintro e w1 ⟨rfl,rfl⟩;go_wp2_with fail
   refine cL.mono ?_;clear cL;rintro e w1 ⟨rfl,rfl⟩;go_wp2_with (go_at_call 265;refine(rI _ _).mono ?_;rintro e w' ⟨rfl,rfl⟩)
   go_quiet ((go_at_call 265;exact dJ ((rI _ _).mono fun _ _ h=>⟨h.1,h.2.symm⟩)))
   go_wp2
   go_ret;exact⟨qT (by rw[hf.out]),_,rfl⟩
  ·have hle:L≤M:=by omega
   have h2:decide ((1:Int)<D)=false:=by simp;omega
   have hf:Hid ((usc x hi lo s:Nat)=H / 2 ^ s ||| 0):=aj (by rw[hu.out,aJ hlt,aJ hd];rfl);clear hd hu e11 e10 e01;go_enter Tryz.func277,Tryz.ntmps277
   go_wp2_with fail
   refine cM.mono ?_;clear cM;rintro e w1 ⟨rfl,rfl⟩;go_wp2_with fail
   refine cL.mono ?_;clear cL;rintro e w1 ⟨rfl,rfl⟩;go_wp2_with (go_at_call 265;refine(rI _ _).mono ?_;rintro e w' ⟨rfl,rfl⟩)
   go_quiet ((go_at_call 265;exact dJ ((rI _ _).mono fun _ _ h=>⟨h.1,h.2.symm⟩)))
   go_wp2
   go_ret;exact⟨qT (by rw[hf.out,pS];simp),_,rfl⟩
 ·have hb:(IntKind.u64.wrap ((H:Int) / 2 ^ s*2 ^ s) != (H:Int))=true:=by rw[Wj,bne_iff_ne];exact fun e=>hc (Int.natCast_inj.1 e)
  have hf:Hid ((usc x hi lo s:Nat)=H / 2 ^ s ||| 1):=aj (by rw[HU.out,aQ (by simpa using hc)]);clear Wj hqm HU hc e11 e10 U9 cL;go_enter Tryz.func277,Tryz.ntmps277
  go_wp2_with fail
  refine cM.mono ?_;clear cM;rintro e w1 ⟨rfl,rfl⟩;go_wp2
  go_ret;exact⟨qT (by rw[hf.out]),0,rfl⟩
theorem ffb (a:Int) (w:World):(callFunc 266 #[.int .u64 a]).run Tryz.prog w=.ok (.value (.float .f64 a.toNat)) w:=by kernel_rfl
theorem OK (x y n:Nat):x &&& (y*2 ^ n)=(x / 2 ^ n &&& y)*2 ^ n:=by
 rw[←je,←je,←gp]
 apply nB
 intro i;simp only[lh,Nat.testBit_shiftLeft,Nat.testBit_shiftRight]
 by_cases h:n≤i
 ·simp[h,eB h]
 ·simp[h]
theorem IZ (X:Nat) (hX:X<18446744073709551616):X &&& (18446744073709551615-4503599627370496)=X / 9007199254740992*9007199254740992+X % 4503599627370496:=by
 have e:(18446744073709551615-4503599627370496:Nat)=(2047*2 ^ 53)||| (2 ^ 52-1):=by decide
 rw[e,qH,OK,gD];rw[show(2047:Nat)=2 ^ 11-1 by decide,gD,ej (by omega)];rw[oH 53 _ _ (by omega) (by omega)]
theorem SG (X:Nat):X &&& 4503599627370496=X / 4503599627370496 % 2*4503599627370496:=nat_bit 52 X
theorem BZ (X:Nat):X &&& 9223372036854775808=X / 9223372036854775808 % 2*9223372036854775808:=nat_bit 63 X
theorem M3 (X:Nat) (hX:X<18446744073709551616):bits BinOp.and IntKind.u64 (X:Int) 4503599627370496=((X / 4503599627370496 % 2*4503599627370496:Nat):Int):=by rw[←SG];exact mW X 4503599627370496 hX (by decide)
theorem M0 (X:Nat) (hX:X<18446744073709551616):bits BinOp.and IntKind.u64 (X:Int) 9223372036854775808=((X / 9223372036854775808 % 2*9223372036854775808:Nat):Int):=by rw[←BZ];exact mW X 9223372036854775808 hX (by decide)
theorem MZ (X:Nat) (hX:X<18446744073709551616):bits BinOp.andNot IntKind.u64 (X:Int) 4503599627370496=((X / 9007199254740992*9007199254740992+X % 4503599627370496:Nat):Int):=by rw[←IZ X hX];exact si X 4503599627370496 hX (by decide)
theorem FK (X:Nat) (hX:X=0∨X=9223372036854775808):bits BinOp.or IntKind.u64 (X:Int) 9218868437227405312=((X+cD:Nat):Int):=by have:=mu X 9218868437227405312 (by omega) (by decide);rw[oH 63 X 9218868437227405312 (by omega) (by decide)] at this;exact this
def vk (neg:Bool) (m:Nat) (k:Int):Value:=
 if m<B then .tuple #[.float .f64 (sgw neg+m),.nilIface]
 else if 972≤k then .tuple #[.float .f64 (sgw neg+cD),.iface 324 (.int .i64 1)]
 else .tuple #[.float .f64 (sgw neg+((1074+k).toNat*B+m)),.nilIface]
theorem Nq {a b c d:Value} (h1:a=c) (h2:b=d):Ending.returned (.tuple #[a,b])=.returned (.tuple #[c,d]):=by rw[h1,h2]
theorem LF {a b:Nat} (h:a=b):Value.float .f64 a=.float .f64 b:=by rw[h]
theorem Gd (neg:Bool) (m:Nat) (k:Int) (w:World) (hm:m<2*B) (hk:-1074≤k) (hk2:k≤100000):
  Calls Tryz.prog 283 #[.int .u64 ((sgw neg+m:Nat):Int),.int .i64 k] w fun e w'=>e=.returned (vk neg m k)∧w=w':=by
 have UM:=ffb;have hB:B=4503599627370496:=rfl;rw[hB] at hm;have hs:sgw neg=0∨sgw neg=9223372036854775808:=by cases neg<;>simp[sgw]
 obtain⟨X,hX⟩:∃ X,sgw neg+m=X:=⟨_,rfl⟩;have hXlt:X<18446744073709551616:=by omega
 rw[hX];have a52:=M3 X hXlt
 by_cases h1:m<B
 ·have e1:X / 4503599627370496 % 2=0:=by omega
  rw[e1,fO] at a52;replace a52:_=(0:Int):=a52;have hf:Hid (vk neg m k=.tuple #[.float .f64 X,.nilIface]):=aj (by unfold vk;rw[aQ h1,hX]);clear hm hs h1 e1 hB hX;go_enter Tryz.func283,Tryz.ntmps283
  go_wp2
  go_ret2
  exact⟨by rw[hf.out];rfl,rfl⟩
 ·have e1:X / 4503599627370496 % 2=1:=by omega
  rw[e1,dv] at a52;replace a52:_=(4503599627370496:Int):=a52
  by_cases h2:972≤k
  ·have a63:=M0 X hXlt;have e2:X / 9223372036854775808 % 2*9223372036854775808=sgw neg:=by omega
   rw[e2] at a63;have abu:=FK (sgw neg) hs;have hf:Hid (vk neg m k=.tuple #[.float .f64 (sgw neg+cD),.iface 324 (.int .i64 1)]):=aj (by unfold vk;rw[aJ h1,aQ h2]);generalize sgw neg=S at *
   clear hm hs h1 e1 e2 hB hX;go_enter Tryz.func283,Tryz.ntmps283
   go_wp2
   go_ret2
   exact⟨by rw[hf.out];rfl,rfl⟩
  ·have an:=MZ X hXlt;have e2:X / 9007199254740992*9007199254740992+X % 4503599627370496=X-4503599627370496:=by omega
   rw[e2] at an;obtain⟨K,hK⟩:∃ K:Nat,1075+k=K:=⟨(1075+k).toNat,by omega⟩;have hK2:1≤K∧K≤2046:=by omega
   have oo:=mu (X-4503599627370496) (K*4503599627370496) (by omega) (by omega)
   have e3:(X-4503599627370496)||| (K*4503599627370496)=sgw neg+((K-1)*4503599627370496+m):=by
    have e4:X-4503599627370496=sgw neg ||| (m-4503599627370496):=by rw[oH 63 _ _ (by omega) (by omega)];omega
    rw[e4,Nat.or_assoc,s9 (m-_),oH 52 (K*_) _ (by omega) (by omega),oH 63 _ _ (by omega) (by omega)];omega
   rw[e3] at oo
   have hf:Hid (vk neg m k=.tuple #[.float .f64 (sgw neg+((K-1)*4503599627370496+m)),.nilIface]):=aj (by unfold vk;rw[aJ h1,aJ h2,show(1074+k).toNat=K-1 by omega];rfl)
   have RU:k<972:=by omega
   obtain rfl:k=(K:Int)-1075:=by omega
   have AN:bits BinOp.andNot IntKind.u64 (X:Int) 4503599627370496=(X:Int)-4503599627370496:=by rw[an];omega
   have OO:Hid (bits BinOp.or IntKind.u64 ((X:Int)-4503599627370496) ((K:Int)*4503599627370496)=((sgw neg+((K-1)*4503599627370496+m):Nat):Int)):=by
    have e5:(X:Int)-4503599627370496=((X-4503599627370496:Nat):Int):=by omega
    have e6:(K:Int)*4503599627370496=((K*4503599627370496:Nat):Int):=by rw[Int.natCast_mul];rfl
    rw[e5,e6];exact aj oo
   have hX0:4503599627370496≤X:=by omega
   clear an oo hm hs h1 h2 e1 e2 e3 hB hX hK;go_enter Tryz.func283,Tryz.ntmps283
   go_wp2
   go_ret2
   exact⟨by rw[hf.out,show(1075:Int)+((K:Int)-1075)=K by omega,OO.out];rfl,rfl⟩
theorem xo {B:Nat} {w W:World} (h:Below B w W) (n:Nat):Below B w (W.drewN n):=cR h n
def pfV (neg:Bool) (u:Nat):Value:=if u<cD then .tuple #[.float .f64 (sgw neg+u),.nilIface] else .tuple #[.float .f64 (sgw neg+cD),.iface 324 (.int .i64 1)]
theorem Gc (neg:Bool) (u:Nat):∃ a b,pfV neg u=.tuple #[a,b]:=by unfold pfV;split<;>exact⟨_,_,rfl⟩
theorem CY {neg:Bool} {d m:Nat} {p e:Int} (h:FC d p m e):vk neg m (-e)=pfV neg ((1074-e).toNat*B+m):=by
 unfold vk pfV;have hB:B=4503599627370496:=rfl;have hi:cD=9218868437227405312:=rfl;have h2:=h.lt;have h3:=h.le
 by_cases h1:m<B
 ·have:=h.sub h1;subst this;rw[aQ h1,aQ (by rw[hi];rw[hB] at h1;simp;omega)];simp
 ·rw[aJ h1]
  by_cases h4:972≤-e
  ·have:2046*B≤(1074-e).toNat*B:=aI _ (by omega);rw[aQ h4,aJ (by rw[hi];rw[hB] at *;omega)]
  ·have:(1074-e).toNat*B≤2045*B:=aI _ (by omega);rw[aJ h4,aQ (by rw[hi];rw[hB] at *;omega)];rw[show 1074+-e=1074-e by omega]
theorem vQ (d:Nat) (h0:0<d) (h1:d<18446744073709551616):1≤Lib.bitLen d∧Lib.bitLen d≤64∧2 ^ Lib.bitLen d≤2*d∧d<2 ^ Lib.bitLen d:=by
 obtain⟨a,b,c⟩:=Lib.bitLenAux_bounds 64 d (by omega) (by omega);refine⟨a,Lib.bitLen_le d 64 (by omega) (by omega),?_,c⟩
 have:2 ^ Lib.bitLen d=2*2 ^ (Lib.bitLen d-1):=by
  have e:Lib.bitLen d=(Lib.bitLen d-1)+1:=by have:1≤Lib.bitLen d:=a;omega
  conv=>lhs;rw[e,Nat.pow_succ,aK]
 rw[this];exact bG 2 b
theorem FN (w:World):Calls Tryz.prog 278 #[.int .u64 9007199254740992] w fun e w'=>e=.returned (.int .u64 36028797018963966)∧w=w':=P8 9007199254740992 w (by decide) (by decide)
theorem Km (u:Nat):u ||| u % 2=u:=by rw[uB _ _ (by omega)];split<;>omega
theorem AQ {neg:Bool} {m:Nat} (hm:m<9223372036854775808):bits BinOp.or IntKind.u64 (sgw neg:Int) (m:Int)=((sgw neg+m:Nat):Int):=by
 have hs:sgw neg=0∨sgw neg=9223372036854775808:=by cases neg<;>simp[sgw]
 have:=mu (sgw neg) m (by omega) (by omega)
 rwa [oH 63 (sgw neg) m (by omega) hm] at this
theorem P4 {x hi lo s:Nat} (hx:x<18446744073709551616) (hh:hi<18446744073709551616) (hs:8≤s):usc x hi lo s≤72057594037927936:=by
 have hH:x*hi / W<18446744073709551616:=by have:x*hi<18446744073709551616*18446744073709551616:=mI hx hh;have hW:W=18446744073709551616:=rfl;rw[hW];omega
 have h2:256≤2 ^ s:=by have:2 ^ 8≤2 ^ s:=aS (by decide) hs;omega
 have hd:∀ q,q≤x*hi / W→q / 2 ^ s≤72057594037927935:=fun q hq=>by have:q / 2 ^ s≤q / 256:=Nat.div_le_div_left h2 (by decide);omega
 have ho:∀ q b,q≤72057594037927935→b≤1→q ||| b≤72057594037927936:=fun q b hq hb=>by rw[uB q b hb];split<;>omega
 unfold usc;simp only[];split
 ·exact ho _ _ (hd _ (aq _)) (aq _)
 ·exact ho _ _ (hd _ (by split<;>omega)) (by split<;>omega)
theorem Jn (u:Nat) (hu:u<9223372036854775808):bits BinOp.or IntKind.u64 ((u:Int) / 2) ((u:Int) % 2)=((u / 2 ||| u % 2:Nat):Int):=by have:=mu (u / 2) (u % 2) (by omega) (by omega);rw[←this];rfl
theorem Jm (u:Nat) (hu:u<9223372036854775808):bits BinOp.or IntKind.u64 (u:Int) ((u:Int) % 2)=(u:Int):=by have:=mu u (u % 2) (by omega) (by omega);rw[Km] at this;exact this
theorem Oc (u:Nat):u / 2 ||| u % 2≤u / 2+1:=by rw[uB _ _ (by omega)];split<;>omega
theorem zF (d:Nat) (p:Int) (neg:Bool) (w:World) (h0:0<d) (hd:d<18446744073709551616) (h1:-345≤p) (h2:p≤310) (hp:P10 w):
  Calls Tryz.prog 268 #[.int .u64 d,.int .i64 p,.int .u64 (sgw neg)] w fun e w'=>∃ u,eZ (cN d p) (cC p) u∧e=.returned (pfV neg u)∧Below w.heap.size w w':=by
 obtain⟨b0,b1,b2,b3⟩:=vQ d h0 hd;have cL:=Tryz.bits_Len64 (d:Int) w (by omega) (by omega);rw[Int.toNat_natCast] at cL;generalize Lib.bitLen d=b at *
 obtain⟨l,hl⟩:∃ l,lpI p=l:=⟨_,rfl⟩;have cl:=E0 p w (by omega) (by omega);have hl1:-1200≤l:=by rw[←hl];unfold lpI;omega
 have hl2:l≤1100:=by rw[←hl];unfold lpI;omega
 rw[hl] at cl;obtain⟨e,he⟩:∃ e:Int,min 1074 (53-(b:Int)-l)=e:=⟨_,rfl⟩;have he3:Hid (e=if 1074≤53-(b:Int)-lpI p then 1074 else 53-b-lpI p):=aj (by rw[hl,←he];split<;>omega);have he1:e≤1074:=by omega
 have he2:-2000≤e:=by omega
 obtain⟨c,hc⟩:∃ c:Nat,64-b=c:=⟨_,rfl⟩;have hci:(64:Int)-b=c:=by omega
 have ab5:c≤63:=by omega
 obtain⟨s,hs⟩:∃ s:Int,-(e-c+l+3)=s:=⟨_,rfl⟩;have hs1:Hid (s=-(e-(64-(b:Int))+lpI p+3)):=aj (by rw[hl,hci];omega);have cP:=Hs p (e-c) 0 w h1 h2 (by omega) (by omega) hp;rw[hl,hs] at cP;have hs8:8≤s:=by omega
 have HB1:=aj b2;have HB2:=aj b3;have HL:=aj hl;have HC:=aj hc;have UM:=ffb;clear hl b2 b3 hc hs;go_enter Tryz.func268,Tryz.ntmps268
 go_wp2_with fail
 refine cL.mono ?_;clear cL;rintro e' w1 ⟨rfl,rfl⟩;go_wp2_with fail
 refine cl.mono ?_;clear cl;rintro e' w1 ⟨rfl,rfl⟩;go_wp2_with fail
 refine cP.mono ?_;clear cP;rintro e' w2 ⟨rfl,rfl⟩
 by_cases h64:64≤s
 ·have hnr:=He HB2.out b1 h1 h2 he3.out hs1.out h64;have zS:=aj hnr;have hz:bits BinOp.or IntKind.u64 (sgw neg:Int) 0=((sgw neg+0:Nat):Int):=AQ (m:=0) (by decide);clear hnr he;go_wp2_with fail
  go_ret2
  refine⟨0,zS.out,?_,(Below.refl _ _).alloc (aq _) _⟩;unfold pfV;rw[aQ (by decide)];rfl
 ·obtain⟨k,hk⟩:∃ k:Nat,s=8+k:=⟨(s-8).toNat,by omega⟩;obtain⟨sn,hsn⟩:∃ sn:Nat,s=sn:=⟨s.toNat,by omega⟩;have Ut:=P6 (s:=s) HB1.out HB2.out b1 h1 h2 k hk;have hpar:=Hx (u:=unr (d*2 ^ (64-b)*PA p) (PM p*2 ^ k)) HB1.out HB2.out b0 b1 h1 h2 he3.out hs1.out k hk rfl
  have hx1:9223372036854775808≤d*2 ^ (64-b):=by have e1:2 ^ b*2 ^ (64-b)≤2*d*2 ^ (64-b):=aI _ HB1.out;rw[←aY,eB b1,aA] at e1;omega
  have hx2:d*2 ^ (64-b)<18446744073709551616:=by have e1:d*2 ^ (64-b)<2 ^ b*2 ^ (64-b):=bq HB2.out (bf (by decide));rw[←aY,eB b1] at e1;omega
  rw[←Ut,hsn,Int.toNat_natCast] at hpar;obtain⟨i,hi⟩:∃ i:Nat,(p+348).toNat=i:=⟨_,rfl⟩;obtain⟨t1,t2,t3,t4,t5⟩:=JD p (by omega) (by omega);have hhi:2≤tHi (p+348).toNat:=t3;rw[hi] at hpar t3 t4 t5 hhi ⊢;rw[HC.out] at hpar hx1 hx2;obtain⟨x,hx⟩:∃ x,d*2 ^ c=x:=⟨_,rfl⟩
  have hwx:IntKind.u64.wrap ((d:Int)*2 ^ c)=(x:Int):=by rw[←hx,show(d:Int)*2 ^ c=((d*2 ^ c:Nat):Int) by simp];exact gM _ (by omega)
  rw[hx] at hpar hx1 hx2;subst hsn;have cU:=Na x (tHi i) (tLo i) sn w1.heap.size (w1.alloc (.cells #[.int .u64 (tHi i),.int .u64 (tLo i),.int .i64 sn] 376)) hx2 t4 t5 (by omega) (aF (by omega) (gK hx1 hhi)) (by simp) (by simp) (by simp);obtain⟨u,hu⟩:∃ u,usc x (tHi i) (tLo i) sn=u:=⟨_,rfl⟩;have hub:u≤72057594037927936:=by rw[←hu];exact P4 hx2 t4 (by omega)
  rw[hu] at cU hpar;have FG:=aj hpar;clear Ut hpar t1 t2 t3 t4 t5 hhi hx hu hi he hk hx1 hx2;go_wp2_with fail
  refine cU.mono ?_;clear cU;rintro e' w2 ⟨rfl,n1,rfl⟩;have hand:=and_one_u64 (u:Int) (by omega) (by omega)
  by_cases hge:36028797018963966≤u
  ·have hP:=FG.out.1 hge;have hdec:decide ((36028797018963966:Int)≤u)=true:=by simp;omega
   have zh:=Jn u (by omega);obtain⟨v,hv⟩:∃ v,u / 2 ||| u % 2=v:=⟨_,rfl⟩
   have hvb:=Oc u;rw[hv] at hP zh hvb;obtain⟨m,hm⟩:∃ m,(v+1+v / 4 % 2) / 4=m:=⟨_,rfl⟩;have cr:=fun w=>JR v w (by omega)
   simp only[hm] at cr;rw[hm] at hP;have hml:=hP.lt;have Of:B=4503599627370496:=rfl;have zs:=AQ (neg:=neg) (m:=m) (by omega);have HP:=aj hP;have hv8:v≤9223372036854775807:=by omega
   clear hP hm hv FG Of;go_wp2_with fail
   refine(FN _).mono ?_;rintro e' w2 ⟨rfl,rfl⟩;go_wp2_with fail
   refine(L7 true _).mono ?_;rintro e' w2 ⟨rfl,rfl⟩;go_wp2_with fail
   refine(cr _).mono ?_;rintro e' w2 ⟨rfl,rfl⟩;go_wp2_with fail
   have cp:=fun w=>Gd neg m (-(e-1)) w hml (by omega) (by omega)
   refine(cp _).mono ?_;rintro e' w2 ⟨rfl,rfl⟩;rw[CY HP.out];obtain⟨ra,rb,hab⟩:=Gc neg ((1074-(e-1)).toNat*B+m);have Z0:=aj hab;rw[hab];clear hab cp;go_wp2_with fail
   go_ret2
   exact⟨_,HP.out.Ug,by rw[Z0.out];rfl,xo ((Below.refl _ _).alloc (aq _) _) _⟩
  ·have hP:=FG.out.2 (by omega);have hdec:decide ((36028797018963966:Int)≤u)=false:=by simp;omega
   have zh:=Jm u (by omega);obtain⟨m,hm⟩:∃ m,(u+1+u / 4 % 2) / 4=m:=⟨_,rfl⟩;have cr:=fun w=>JR u w (by omega)
   simp only[hm] at cr;rw[hm] at hP;have hml:=hP.lt;have Of:B=4503599627370496:=rfl;have zs:=AQ (neg:=neg) (m:=m) (by omega);have HP:=aj hP;clear hP hm FG Of hge;go_wp2_with fail
   refine(FN _).mono ?_;rintro e' w2 ⟨rfl,rfl⟩;go_wp2_with fail
   refine(L7 false _).mono ?_;rintro e' w2 ⟨rfl,rfl⟩;go_wp2_with fail
   refine(cr _).mono ?_;rintro e' w2 ⟨rfl,rfl⟩;go_wp2_with fail
   have cp:=fun w=>Gd neg m (-e) w hml (by omega) (by omega)
   refine(cp _).mono ?_;rintro e' w2 ⟨rfl,rfl⟩;rw[CY HP.out];obtain⟨ra,rb,hab⟩:=Gc neg ((1074-e).toNat*B+m);have Z0:=aj hab;rw[hab];clear hab cp;go_wp2_with fail
   go_ret2
   exact⟨_,HP.out.Ug,by rw[Z0.out];rfl,xo ((Below.refl _ _).alloc (aq _) _) _⟩
end fl
end Go.Proofs.YthpdlidbaojlbaaGreatDoor
