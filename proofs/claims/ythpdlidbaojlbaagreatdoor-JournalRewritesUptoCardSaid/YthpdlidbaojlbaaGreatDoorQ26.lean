/- Shortest digits: what is picked at k digits; that 17 digits  -/
import Derived.Test.YthpdlidbaojlbaaGreatDoorQ25
set_option linter.unusedVariables false
set_option linter.unusedSimpArgs false
set_option maxHeartbeats 4000000
open Go.ChangeShapes Go.WideShapes Go.ChangeAt Go.RowKit
namespace Go.Proofs.YthpdlidbaojlbaaGreatDoor
namespace fl
theorem JO {P w:Nat} (hw:eZ (P*2 ^ K74) 1 w) (h:1000000000000000<P):1000000000000000*2 ^ K74<V w:=by
 obtain⟨q,hq,hV,_⟩:=yO false 1000000000000001 (by decide) (by decide);have h1:eZ (1000000000000001*2 ^ K74) 1 q:=rh hV;have hle:1000000000000001≤P:=by omega
 have h2:=Ik (by decide) (aI (2 ^ K74) hle) h1 hw;have h3:=zN h2;rw[hV] at h3;refine aP ?_ h3;exact bq (by decide) (bf (by decide))
theorem Eu {P w:Nat} (hw:eZ (P*2 ^ K74) 1 w) (h0:0<P) (h:P≤1000000000000000):ur w P:=by obtain⟨q,hq,hV,_⟩:=yO false P h0 (by omega);have h1:eZ (P*2 ^ K74) 1 q:=rh hV;rw[nh (by decide) hw h1];exact hV
theorem Om (d k:Nat) (neg:Bool) (w:World) (h0:0<d) (hb:d<4503599627370496) (hk:1≤k) (hk2:k≤15) (hf:FT w):
  Calls Tryz.prog 267 #[.int .u64 d,.int .i64 ((k:Int)+22),.bool neg] w (uP d ((k:Int)+22) neg w):=by
 have hi:=hf.info;obtain⟨g,o,hg,hcA⟩:=hf.p10;have hc:=hcA k (by omega);have hc22:=hcA 22 (by omega);clear hcA;have hn:((d:Int) / 4503599627370496 != 0)=false:=by simp;omega
 have hz:((k:Int)+22 == 0)=false:=by simp;omega
 obtain⟨u,hu,hV,hfl⟩:=foi d h0 (by omega);have hneg:=vs u hu;obtain⟨i1,i2⟩:=yA k (by omega);obtain⟨j1,j2⟩:=yA 22 (by omega);obtain⟨v,hv⟩:∃ v,jt.getD k 0=v:=⟨_,rfl⟩;obtain⟨v22,RL⟩:∃ v,jt.getD 22 0=v:=⟨_,rfl⟩;rw[hv] at hc i1 i2;rw[RL] at hc22 j1 j2;obtain⟨r,hr,er⟩:=yI (s:=neg) (t:=false) hu i2 hV i1 h0 (bf (by decide));have hdk:d*10 ^ k≤4503599627370496*10 ^ 15:=gK (bW hb) (aS (by decide) hk2);have Gv:r<cD:=pH (by decide) (tu (aF hdk (by decide +kernel))) hr;rw[dB (bW Gv)] at er;have Wf:0<d*10 ^ k:=df h0 (bf (by decide));have hop:=Gg r Gv;have hon:=Gh r Gv
 by_cases hbig:1000000000000000<d*10 ^ k
 ·have hbg:=JO hr hbig;clear hV hu i1 i2 j1 j2 hr Gv hv RL hb hdk Wf hbig;cases neg
  ·have hq:=fun w=>eJ (P:=Tryz.prog) w .mul 52 .f64 u v r (by show Ieee.double.mul u v=some r;simpa[sgw] using er)
   obtain⟨o,o1,o2,o3⟩:=hop;have ho:=o3.2 hbg;subst ho
   replace o1:FloatKind.f64.format.order r 4831355200913801216=some .gt:=o1
   replace o2:FloatKind.f64.format.order r 14054727237768577024=some .gt:=o2
   clear er hon o3 hbg;go_enter Tryz.func267,Tryz.ntmps267
   go_wp2
   go_ret2
   exact⟨_,false,rfl,(fun h=>by cases h),rfl⟩
  ·have hq:=fun w=>eJ (P:=Tryz.prog) w .mul 52 .f64 (sgw true+u) v (sgw true+r) (by show Ieee.double.mul (sgw true+u) v=some (sgw true+r);simpa[sgw] using er)
   obtain⟨o,o1,o2,o3⟩:=hon;have ho:=o3.2 hbg;subst ho
   replace o1:FloatKind.f64.format.order (sgw true+r) 4831355200913801216=some .lt:=o1
   replace o2:FloatKind.f64.format.order (sgw true+r) 14054727237768577024=some .lt:=o2
   clear er hop o3 hbg;go_enter Tryz.func267,Tryz.ntmps267
   go_wp2
   go_ret2
   exact⟨_,false,rfl,(fun h=>by cases h),rfl⟩
 ·have hsm:=Eu hr Wf (by omega)
  have hns:¬1000000000000000*2 ^ K74<V r:=by rw[hsm];have:d*10 ^ k*2 ^ K74≤1000000000000000*2 ^ K74:=aI _ (by omega);omega
  obtain⟨q,hq,eq⟩:=yI (s:=neg) (t:=false) Gv j2 hsm j1 Wf (bf (by decide));have hqi:q<cD:=pH (by decide) (tu (aF (aI (10 ^ 22) (show d*10 ^ k≤1000000000000000 by omega)) (by decide +kernel))) hq;rw[dB (bW hqi)] at eq
  have lP:eZ (cN d ((k:Int)+22)) (cC ((k:Int)+22)) q:=by unfold cN cC;rw[aQ (by omega),aQ (by omega),show((k:Int)+22).toNat=k+22 by omega,aY,←aA];exact hq
  have hfin:Hid (∃ u',u'<cD∧eZ (cN d ((k:Int)+22)) (cC ((k:Int)+22)) u'∧sgw neg+q=sgw neg+u'):=aj ⟨q,hqi,lP,rfl⟩;clear hV hu i1 i2 j1 j2 hr Gv hv RL hb hdk Wf hbig hsm hq hqi lP;cases neg
  ·have hq:=fun w=>eJ (P:=Tryz.prog) w .mul 52 .f64 u v r (by show Ieee.double.mul u v=some r;simpa[sgw] using er)
   have hq2:=fun w=>eJ (P:=Tryz.prog) w .mul 52 .f64 r v22 q (by show Ieee.double.mul r v22=some q;simpa[sgw] using eq)
   obtain⟨o,o1,o2,o3⟩:=hop
   replace o1:FloatKind.f64.format.order r 4831355200913801216=some o:=o1
   replace o2:FloatKind.f64.format.order r 14054727237768577024=some .gt:=o2
   have ho:o≠.gt:=fun h=>hns (o3.1 h)
   clear er eq hon o3 hns
   rcases o with _|_|_
   ·go_enter Tryz.func267,Tryz.ntmps267
    go_wp2
    go_ret2
    exact⟨q,true,rfl,(fun _=>by have:=hfin.out;rwa [show sgw false+q=q from bD q] at this),rfl⟩
   ·go_enter Tryz.func267,Tryz.ntmps267
    go_wp2
    go_ret2
    exact⟨q,true,rfl,(fun _=>by have:=hfin.out;rwa [show sgw false+q=q from bD q] at this),rfl⟩
   ·exact(ho rfl).elim
  ·have hq:=fun w=>eJ (P:=Tryz.prog) w .mul 52 .f64 (sgw true+u) v (sgw true+r) (by show Ieee.double.mul (sgw true+u) v=some (sgw true+r);simpa[sgw] using er)
   have hq2:=fun w=>eJ (P:=Tryz.prog) w .mul 52 .f64 (sgw true+r) v22 (sgw true+q) (by show Ieee.double.mul (sgw true+r) v22=some (sgw true+q);simpa[sgw] using eq)
   obtain⟨o,o1,o2,o3⟩:=hon
   replace o1:FloatKind.f64.format.order (sgw true+r) 4831355200913801216=some .lt:=o1
   replace o2:FloatKind.f64.format.order (sgw true+r) 14054727237768577024=some o:=o2
   have ho:o≠.lt:=fun h=>hns (o3.1 h)
   clear er eq hop o3 hns
   rcases o with _|_|_
   ·exact(ho rfl).elim
   ·go_enter Tryz.func267,Tryz.ntmps267
    go_wp2
    go_ret2
    exact⟨_,true,rfl,(fun _=>hfin.out),rfl⟩
   ·go_enter Tryz.func267,Tryz.ntmps267
    go_wp2
    go_ret2
    exact⟨_,true,rfl,(fun _=>hfin.out),rfl⟩
theorem BY (d:Nat) (p:Int) (neg:Bool) (w:World) (h0:0<d) (hd:d<18446744073709551616) (hf:FT w):
  Calls Tryz.prog 267 #[.int .u64 d,.int .i64 p,.bool neg] w (uP d p neg w):=by
 rcases dD d 4503599627370496 with hb|hb
 ·by_cases h1:p < -22∨37<p
  ·exact Ss d p neg w hb h1 hf
  ·rcases dy p 0 with h2|h2|h2
   ·obtain⟨k,rfl⟩:∃ k:Nat,p=-(k:Int):=⟨(-p).toNat,by omega⟩;exact St d k neg w h0 hb (by omega) (by omega) hf
   ·subst h2;exact Ol d neg w h0 hb hf
   ·by_cases h3:p≤22
    ·obtain⟨k,rfl⟩:∃ k:Nat,p=(k:Int):=⟨p.toNat,by omega⟩;exact Sr d k neg w h0 hb (by omega) (by omega) hf
    ·obtain⟨k,rfl⟩:∃ k:Nat,p=(k:Int)+22:=⟨(p-22).toNat,by omega⟩;exact Om d k neg w h0 hb (by omega) (by omega) hf
 ·exact U7 d p neg w hd hb hf
def bl (s:ByteArray):List Nat:=s.data.toList.map UInt8.toNat
theorem aL (s:ByteArray):(bl s).length=s.size:=by unfold bl;simp
theorem qD (s:ByteArray) (k:Nat) (h:k<s.size):s[k].toNat=(bl s).getD k 0:=by
 unfold bl;rw[az,bK]
 have:s.data.toList[k]?=some s[k]:=by rw[ag (by simpa using h)];rfl
 rw[this];rfl
inductive Ex:List Nat→Int→Prop
 | none:Ex [] 0
 | some {c:Nat} {sg ds:List Nat} {neg:Bool}:(c=101∨c=69)→(sg=[]∧neg=false∨sg=[43]∧neg=false∨sg=[45]∧neg=true)→1≤ds.length→ds.length≤5→(∀ x∈ds,dX x)→Ex (c::(sg++ds)) (if neg then -(cX ds:Int) else cX ds)
structure Pd (s:ByteArray) (neg:Bool) (m:List Nat) (p:Bool) (e:Int):Prop where
 bytes:∃ sg xs,bl s=sg++m++xs∧(sg=[]∧neg=false∨sg=[43]∧neg=false∨sg=[45]∧neg=true)∧Ex xs e
 qa:ta m p
 some:(rf m).dig=true
 short:s.size≤100
def nP (m:List Nat) (e:Int):Int:=if (rf m).qa=0 then 0 else (if (rf m).dot then (rf m).dp else (rf m).nd)+e-(rf m).ndm
theorem KJ (c:Nat) (w:World) (h:c<256):Calls Tryz.prog 273 #[.int .u8 c] w fun e w'=>e=.returned (.int .u8 ((c ||| 32:Nat):Int))∧w=w':=by
 have h2:=u8_or_nat c 32 h (by decide);go_enter Tryz.func273,Tryz.ntmps273
 go_wp2
 go_ret;exact⟨by rw[←h2];rfl,rfl⟩
def KW (c:Nat):Bool:=decide (48≤c) && decide (c≤57)
theorem GD (c:Nat) (h:dX c∨c=46):((c:Int) == 43)=false∧((c:Int) == 45)=false:=by unfold dX at h;constructor<;>simp<;>omega
structure At (s:ByteArray) (a n:Nat) (m xs:List Nat):Prop where
 size:s.size=n
 len:n=a+m.length+xs.length
 man:∀ k (h:k<s.size),a≤k→k<a+m.length→s[k].toNat=m.getD (k-a) 0
 ex:∀ k (h:k<s.size),a+m.length≤k→s[k].toNat=xs.getD (k-(a+m.length)) 0
theorem PI {s:ByteArray} {sg m xs:List Nat} (hb:bl s=sg++m++xs):At s sg.length s.size m xs:=by
 have hl:s.size=sg.length+m.length+xs.length:=by rw[←aL,hb];simp[fW]
 refine⟨rfl,hl,fun k h h1 h2=>?_,fun k h h1=>?_⟩
 ·rw[qD s k h,hb,aD,az,bN h1,b8 (by omega),←az]
 ·rw[qD s k h,hb,az,bN (by simp;omega),←az];simp
theorem NU (c:Nat) (h:dX c∨c=46∨c=101∨c=69):(((c ||| 32:Nat):Int) == 120)=false:=by
 have:∀ c:Fin 128,(KW c.val || c.val == 46 || c.val == 101 || c.val == 69)=true→(((c.val ||| 32:Nat):Int) == 120)=false:=by decide
 unfold dX at h;exact this ⟨c,by omega⟩ (by simp only[KW,jL,cQ,dr,mH];omega)
def GU (m:List Nat) (a:Nat) (j:Nat) (w0:World) (mt tr i un dot dig nd ndm dp:Value) (wx:World):Prop:=wx=w0∧∃ S:RF,rf (m.take j)=S∧i=.int .i64 ((a+j:Nat):Int)∧un=.bool false∧mt=.int .u64 S.qa∧tr=.bool S.tr∧dot=.bool S.dot∧dig=.bool S.dig∧nd=.int .i64 S.nd∧ndm=.int .i64 S.ndm∧dp=.int .i64 S.dp
theorem rd_mk {m:List Nat} {a j MT ND NDM:Nat} {DP mt nd ndm dp i:Int} {DOT DIG TR tr dot dig:Bool} {w:World} (hS:rf (m.take j)=⟨MT,ND,NDM,DP,DOT,DIG,TR⟩) (h1:i=a+j) (h2:mt=MT) (h3:nd=ND) (h4:ndm=NDM) (h5:dp=DP) (h6:tr=TR) (h7:dot=DOT) (h8:dig=DIG):
  GU m a j w (.int .u64 mt) (.bool tr) (.int .i64 i) (.bool false) (.bool dot) (.bool dig) (.int .i64 nd) (.int .i64 ndm) (.int .i64 dp) w:=by
 subst h1 h2 h3 h4 h5 h6 h7 h8;exact⟨rfl,_,hS,by simp,rfl,rfl,rfl,rfl,rfl,rfl,rfl,rfl⟩
theorem wm {m:List Nat} {j:Nat} (h:j<m.length):m.take (j+1)=m.take j++[m.getD j 0]:=by rw[fh h,az,ag h];rfl
theorem DK:∀ (l:List Nat) (a:Nat),(∀ x∈l,dX x)→l.foldl (fun a c=>if c=46 then a else a*10+(c-48)) a<(a+1)*10 ^ l.length
 | [],a,_=>by simp
 | c::l,a,h=>by obtain⟨c1,c2⟩:=h c (by simp);have:=DK l (a*10+(c-48)) (fun x hx=>h x (by simp[hx]));rw[List.foldl_cons,aJ (by omega)];refine aP this ?_;rw[List.length_cons,Nat.pow_succ,aK (10 ^ l.length),←aA];exact aI _ (by omega)
theorem kD (l:List Nat) (h:∀ x∈l,dX x):cX l<10 ^ l.length:=by
 have:=DK l 0 h
 rwa [bD,dv] at this
theorem A9 {s:ByteArray} {m:List Nat} {S:RF} {E x mt n:Int} {neg tr:Bool} (hS:rf m=S) (h1:mt=S.qa) (h2:tr=S.tr) (hx:nP m E=x) (hn:s.size=n):
  Ending.returned (.tuple #[.int .u64 mt,.int .i64 x,.bool neg,.bool tr,.bool false,.int .i64 n,.bool true])=Ending.returned (.tuple #[.int .u64 (rf m).qa,.int .i64 (nP m E),.bool neg,.bool (rf m).tr,.bool false,.int .i64 s.size,.bool true]):=by
 rw[hS,hx,hn,h1,h2]
structure ExD (s:ByteArray) (g:Nat) (ds:List Nat):Prop where
 len:s.size=g+ds.length
 one:1≤ds.length
 Oi:ds.length≤5
 dig:∀ x∈ds,dX x
 at':∀ k (h:k<s.size),g≤k→s[k].toNat=ds.getD (k-g) 0
def Np (m:List Nat):Int:=if (rf m).dot then (rf m).dp else (rf m).nd
def Mj (s:ByteArray) (neg:Bool) (m:List Nat) (E:Int) (w:World) (e:Ending) (w':World):Prop:=e=.returned (.tuple #[.int .u64 (rf m).qa,.int .i64 (nP m E),.bool neg,.bool (rf m).tr,.bool false,.int .i64 s.size,.bool true])∧∃ n,w'=w.drewN n
def xH (s:ByteArray):Prop:=∀ c∈bl s,dX c
theorem Au {m:List Nat} {k:Nat} (hk:k<m.length) (h:∀ c∈m,dX c):cX (m.take (k+1))=cX (m.take k)*10+(m.getD k 0-48)∧48≤m.getD k 0∧m.getD k 0≤57:=by
 have hd:dX (m.getD k 0):=by rw[az,ag hk];exact h _ (ji hk)
 unfold dX at hd;rw[jY hk,ja,aJ (by omega)];exact⟨rfl,hd⟩
theorem yl {k:Nat} (hk:k≤1000) {n:Nat} (hn:n<10 ^ k):n<Bs ^ KB:=by have h1:10 ^ k≤Bs ^ k:=nR (by decide) _;have h2:Bs ^ k≤Bs ^ KB:=aS gB (by unfold KB;omega);exact aP hn (aF h1 h2)
theorem kbc:Bs ^ KB≤Bs ^ KC:=aS gB (by decide)
set_option maxRecDepth 100000 in
theorem AS (s:ByteArray) (w:World) (hs:xH s) (hl:s.size≤100):
  Calls Tryz.prog 89 #[.string s] w (jU .u64 (cX (bl s)) w):=by
 have HS:=aj hs;have hbl:=aL s;have HB:=aj hbl;clear hs hbl;obtain⟨n,hn⟩:∃ n,s.size=n:=⟨_,rfl⟩;have HN:=aj hn;have hnil:Hid (Num .u64 w (.slice none 0 0) 0):=aj ⟨[],⟨none,0,rfl,by decide,fun h=>absurd h (by decide)⟩,BU,rfl⟩;rw[hn] at hl;clear hn;have HAT:Hid (∀ k (h:k<n),∃ h2:k<s.size,s[k].toNat=(bl s).getD k 0):=aj fun k h=>⟨by rw[HN.out];exact h,qD s k _⟩
 go_enter Tryz.func89,Tryz.ntmps89
 go_wp2_with fail
 rw[HN.out]
 go_loopw [3,7] (fun v j wr=>∃ (j':Nat),j=.int .i64 j'∧j'≤n∧Hid (Num .u64 wr v (cX ((bl s).take j')))∧Hid (Below w.heap.size w wr)) (fun _ j _=>n-(intOf j).toNat)
 case atStart=>exact⟨0,rfl,by omega,hnil,aj (Below.refl _ _)⟩
 case round=>
  obtain⟨j,rfl,hj,hV,hB⟩:=hrel
  by_cases hlt:j<n
  ·obtain⟨h2,hat⟩:=HAT.out j hlt;have hdt:=Au (m:=bl s) (k:=j) (by rw[HB.out,HN.out];exact hlt) HS.out;have hbound:=yl (k:=n) (by omega) (cE (aq (cX ((bl s).take j))) (aP (kD _ (fun c hc=>HS.out c (gL hc))) (aS (by decide) (by rw[aR];omega))));obtain⟨c,hc⟩:∃ c,(bl s).getD j 0=c:=⟨_,rfl⟩;rw[hc] at hat hdt;obtain⟨hd1,hd2,hd3⟩:=hdt;have HD1:=aj hd1;have zx:=aj (aP hbound kbc);clear hd1 hbound hc;go_wp2_with fail
   rw[show(c:Int)-48=((c-48:Nat):Int) by omega];refine(yk _ _ 10 (c-48) _ hV.out (by decide) (by decide) (cE (Nat.sub_le_sub_right hd3 48) (by decide)) zx.out).mono ?_;rintro e w3 ⟨y,rfl,hy,hb3⟩;rw[←HD1.out] at hy;have HY:=aj hy;have HB3:=aj (hB.out.trans (hb3.mono hB.out.size));clear hy hb3;go_wp2_with fail
   go_roundw
   case rel=>exact⟨j+1,by go_num,by omega,HY,HB3⟩
   case measure=>simp[intOf];omega
  ·obtain rfl:j=n:=by omega
   have he:(bl s).take j=bl s:=aE (by rw[HB.out,HN.out];exact aq _);have HE:=aj he;clear he;go_wp2_with fail
   go_ret;exact⟨_,rfl,by rw[←HE.out];exact hV.out,hB.out⟩
def gO (u:Nat) (q:Int) (D:Nat):Prop:=cN D q≤V u*cC q∧V u*cC q<cN (D+1) q
theorem Oz {X D:Nat} {q:Int} (h:cN D (q+1)≤X*cC (q+1)):cN (D*10) q≤X*cC q:=by have h1:=mr D 1 q;rw[ke] at h1;have h2:cN D (q+1)*cC q≤X*cC (q+1)*cC q:=aI _ h;rw[show((1:Nat):Int)=1 from rfl] at h1;rw[←h1,aA,aK (cC (q+1)),←aA] at h2;exact eO h2 (gr _)
theorem Oy {X D:Nat} {q:Int} (h:X*cC (q+1)<cN D (q+1)):X*cC q<cN (D*10) q:=by have h1:=mr D 1 q;rw[ke,show((1:Nat):Int)=1 from rfl] at h1;have h2:X*cC (q+1)*cC q<cN D (q+1)*cC q:=bq h (gr _);rw[←h1,aA,aK (cC (q+1)),←aA] at h2;exact eN h2
def Cm (u:Nat) (q:Int) (D x:Nat):Prop:=x≤9∧V u*cC q<cN (D*10+x+1) q
theorem Cm.start {u D:Nat} {q:Int} (h:gO u (q+1) D):Cm u q D 9:=⟨by decide,by have:=Oy h.2;rwa [bS] at this⟩
theorem Cm.fin {u D x:Nat} {q:Int} (h:Cm u q D x) (hf:gO u (q+1) D) (hx:x=0∨¬V u*cC q<cN (D*10+x) q):gO u q (D*10+x):=by
 refine⟨?_,h.2⟩
 rcases hx with rfl|hx
 ·exact Oz hf.1
 ·exact dS hx
theorem Cm.next {u D x:Nat} {q:Int} (h:Cm u q D (x+1)) (hx:V u*cC q<cN (D*10+(x+1)) q):Cm u q D x:=⟨by have:=h.1;omega,hx⟩
theorem Ay (W:World) (D:Int) (b:UInt8) (hD:D=(b.toNat:Int)):
  Sem.run Tryz.prog (convert 147 9 (.slice (some ⟨W.heap.size,0,none⟩) 1 1)) (W.alloc (.cells #[.int .u8 D] 5))=.ok (.string ⟨#[b]⟩) (W.alloc (.cells #[.int .u8 D] 5)):=by
 have h:=js (P:=Tryz.prog) (W.alloc (.cells #[.int .u8 D] 5)) 147 9 5 ⟨W.heap.size,0,none⟩ 1 [b] Tryz.underlying147 Tryz.underlying5 Tryz.underlying9 (fun j hj=>by
  have hj0:j=0:=by simpa using hj
  subst hj0;refine Di W _ 5 0 _ ?_
  simp[hD])
 exact h
theorem xV (c:Nat) (hc:c<256):∃ b:UInt8,b.toNat=c:=⟨UInt8.ofNat c,by simp[ej hc]⟩
theorem GK (s:ByteArray) (b:UInt8):bl (s++⟨#[b]⟩)=bl s++[b.toNat]:=by unfold bl;simp
theorem size_push (s:ByteArray) (b:UInt8):(s++⟨#[b]⟩).size=s.size+1:=by simp[bJ];rfl
theorem Aw {s:ByteArray} (h:xH s) {x:Nat} (hx:x≤9) {b:UInt8} (hb:b.toNat=x+48):xH (s++⟨#[b]⟩)∧cX (bl (s++⟨#[b]⟩))=cX (bl s)*10+x:=by
 unfold xH;rw[GK s b,hb];refine⟨fun c hc=>?_,?_⟩
 ·rcases bj.mp hc with h1|h1
  ·exact h c h1
  ·simp only[ij] at h1;subst h1;unfold dX;omega
 ·rw[ja,aJ (by omega)];omega
set_option maxRecDepth 100000 in
theorem Si (u:Nat) (p:Int) (k:Nat) (w:World) (hu:u<cD) (hp1:-400≤p) (hp2:p≤400) (hk:k≤17) (hx:V u*cC p<cN 1 p):
  Calls Tryz.prog 86 #[.int .u64 u,.int .i64 p,.int .i64 k] w fun e w'=>∃ s:ByteArray,e=.returned (.string s)∧s.size=k∧xH s∧gO u (p-k) (cX (bl s))∧Below w.heap.size w w':=by
 have hub:u<9223372036854775808:=eI hu (by decide);obtain⟨b1,b2,b3⟩:=Ge u hub;have c1:=Bh u w hub;have hR:=fun d q=>(GQ u d q).1
 have cA:Hid (∀ y d q W,Num .u64 W y d→d<Bs ^ KB→-900≤q→q≤900→Calls Tryz.prog 84 #[.int .u64 (pM u),.int .i64 (pE u),y,.int .i64 q] W (lj (agL (pM u) (pE u) q) (agR d (pE u) q) W)):=aj fun y d q W h hd h1 h2=>sX _ _ y d q W (by omega) (by omega) (by omega) h1 h2 h hd
 have H0:Hid (gO u p 0):=aj ⟨by rw[jR];simp,hx⟩;obtain⟨M,hM⟩:∃ M,pM u=M:=⟨_,rfl⟩;obtain⟨E,hE⟩:∃ M,pE u=M:=⟨_,rfl⟩;rw[hM,hE] at c1 cA hR;have HRR:=aj hR;have HM:=aj hM;rw[hE] at b1 b2;clear hM hE hx hR hu;go_enter Tryz.func86,Tryz.ntmps86
 go_wp2_with fail
 refine c1.mono ?_;clear c1;rintro e w1 ⟨rfl,rfl⟩;go_wp2_with fail
 go_loopw [9,10] (fun o i wr=>∃ (s:ByteArray) (j:Nat),o=.string s∧i=.int .i64 ((j:Int)+1)∧j≤k∧s.size=j∧Hid (xH s)∧Hid (gO u (p-j) (cX (bl s)))∧Hid (Below w1.heap.size w1 wr)) (fun _ i _=>k+1-(intOf i).toNat)
 case atStart=>exact⟨⟨#[]⟩,0,rfl,rfl,by omega,rfl,aj (fun c hc=>by simp[bl] at hc),aj (by rw[show p-((0:Nat):Int)=p by omega];exact H0.out),aj (Below.refl _ _)⟩
 case round=>
  obtain⟨s,j,rfl,rfl,hj,hsz,hD,hF,hB⟩:=hrel
  by_cases hlt:j<k
  ·have hle:((j:Int)+1≤(k:Int)):=by omega
   have hle2:decide ((j:Int)+1≤(k:Int))=true:=fY hle;go_wp2_with fail
   go_loopw [11] (fun c wr=>∃ (x:Nat),c=.int .u8 ((x:Int)+48)∧x≤9∧Hid (Cm u (p-((j:Int)+1)) (cX (bl s)) x)∧Hid (Below w1.heap.size w1 wr)) (fun c _=>(intOf c).toNat)
   case atStart=>exact⟨9,rfl,by omega,aj (Cm.start (by rw[show p-((j:Int)+1)+1=p-j by omega];exact hF.out)),hB⟩
   case round=>
    obtain⟨x,rfl,hx9,hG,hB2⟩:=hrel
    by_cases hx0:0<x
    ·obtain⟨b,hb⟩:=xV (x+48) (by omega);have hcv:=Ay wr ((x:Int)+48) b (by rw[hb];simp);have hdp:=Aw hD.out hx9 hb;obtain⟨t,ht⟩:∃ t:ByteArray,s++⟨#[b]⟩=t:=⟨_,rfl⟩;have hts:t.size=j+1:=by rw[←ht,size_push,hsz]
     rw[ht] at hdp;have Jk:=aj hdp;have HT:=aj ht;have Tg:=aj hb;clear hdp ht hb;have hsz2:=hB2.out.size;go_wp2_with fail
     rw[HT.out];refine(AS t _ Jk.out.1 (by omega)).mono ?_;rintro e w2 ⟨y,rfl,hy,hb2⟩;have HY:=aj hy;have HB3:=aj ((hB2.out.alloc hsz2 _).trans (hb2.mono (by simp;omega)));clear hy hb2;go_wp2_with fail
     have hbd:cX (bl t)<Bs ^ KB:=yl (k:=(bl t).length) (by rw[aL];omega) (kD _ Jk.out.1);refine(cA.out y (cX (bl t)) (p-((j:Int)+1)) _ HY.out hbd (by omega) (by omega)).mono ?_;rintro e w3 ⟨r,rfl,hr1,hr2,hb3⟩;have R1:=aj (hr1.trans (HRR.out _ _));have G6:=aj (HB3.out.trans (hb3.mono HB3.out.size));clear hr1 hr2 hb3 hbd
     by_cases hr0:r<0
     ·go_wp2_with fail
      go_roundw
      case rel=>obtain⟨x',rfl⟩:∃ x',x=x'+1:=⟨x-1,by omega⟩;exact⟨x',by go_num,by omega,aj (hG.out.next (by have:=R1.out.mp hr0;rwa [Jk.out.2] at this)),G6⟩
      case measure=>simp[intOf];omega
     ·have UQ:=Ay w3 ((x:Int)+48) b (by rw[Tg.out];simp);have XL:=G6.out.size;have TJ:=aj (G6.out.alloc XL (.cells #[.int .u8 ((x:Int)+48)] 5));have ZO:=aj (hG.out.fin (by rw[show p-((j:Int)+1)+1=p-j by omega];exact hF.out) (.inr (fun h=>hr0 (R1.out.mpr (by rw[Jk.out.2];exact h)))));go_wp2_with fail
      rw[HT.out];go_roundw
      case rel=>exact⟨t,j+1,rfl,by go_num,by omega,hts,aj Jk.out.1,aj (by rw[Jk.out.2];exact ZO.out),TJ⟩
      case measure=>simp[intOf];omega
    ·obtain rfl:x=0:=by omega
     obtain⟨b,hb⟩:=xV (0+48) (by omega);have hcv:=Ay wr (((0:Nat):Int)+48) b (by rw[hb];rfl);have Yq:=Ay wr 48 b (by rw[hb];rfl);have hdp:=Aw hD.out hx9 hb;obtain⟨t,ht⟩:∃ t:ByteArray,s++⟨#[b]⟩=t:=⟨_,rfl⟩;have hts:t.size=j+1:=by rw[←ht,size_push,hsz]
     rw[ht] at hdp;have Jk:=aj hdp;have HT:=aj ht;clear hdp ht hb;have hsz2:=hB2.out.size;have TJ:=aj (hB2.out.alloc hsz2 (.cells #[.int .u8 (((0:Nat):Int)+48)] 5));have ZO:=aj (hG.out.fin (by rw[show p-((j:Int)+1)+1=p-j by omega];exact hF.out) (.inl rfl));go_wp2_with fail
     rw[HT.out];go_roundw
     case rel=>exact⟨t,j+1,rfl,by go_num,by omega,hts,aj Jk.out.1,aj (by rw[Jk.out.2];exact ZO.out),TJ⟩
     case measure=>simp[intOf];omega
  ·obtain rfl:j=k:=by omega
   have hle:¬((j:Int)+1≤(j:Int)):=by omega
   go_wp2_with fail
   go_ret;exact⟨s,rfl,hsz,hD.out,hF.out,hB.out⟩
theorem IQ:∀ (b:List Nat) (a:Nat),(∀ c∈b,dX c)→b.foldl (fun a c=>if c=46 then a else a*10+(c-48)) a=a*10 ^ b.length+cX b:=by
 intro b
 induction b with
 | nil=>intro a _;simp[cX]
 | cons c t ih=>
  intro a h;have hc:=h c (by simp);unfold dX at hc;have ht:∀ x∈t,dX x:=fun x hx=>h x (by simp[hx])
  have h1:=ih (a*10+(c-48)) ht;have h2:=ih (0*10+(c-48)) ht;unfold cX;simp only[List.foldl_cons,aJ (show ¬c=46 by omega),List.length_cons,Nat.pow_succ];rw[h1,h2,bS,fO,bD,aA,aK 10 (10 ^ t.length)];omega
theorem pN (a b:List Nat) (h:∀ c∈b,dX c):cX (a++b)=cX a*10 ^ b.length+cX b:=by rw[←IQ b (cX a) h];unfold cX;rw[iK]
theorem za (m:Nat):cX (List.replicate m 48)=0:=by
 induction m with
 | zero=>rfl
 | succ m ih=>rw[nC,ja,ih];rfl
theorem zb (m:Nat):cX (List.replicate m 57)+1=10 ^ m:=by
 induction m with
 | zero=>rfl
 | succ m ih=>rw[nC,ja,aJ (by decide),Nat.pow_succ,←ih];omega
theorem sS (m c:Nat) (hc:dX c):∀ x∈List.replicate m c,dX x:=fun x hx=>kU hx ▸ hc
def UpR (l:List Nat) (j:Nat) (xs:List Nat):Prop:=j≤l.length∧l=l.take j++List.replicate (l.length-j) 57∧xs=l.take j++List.replicate (l.length-j) 48
theorem UpR.start (l:List Nat):UpR l l.length l:=⟨aq _,by simp,by simp⟩
theorem CC (a b:List Nat) (c d:Nat):(a++[c]++b).set a.length d=a++[d]++b:=by simp
theorem UpR.split {l xs:List Nat} {j:Nat} (h:UpR l (j+1) xs):xs=l.take j++[l.getD j 0]++List.replicate (l.length-(j+1)) 48∧(l.take j).length=j∧l=l.take j++[l.getD j 0]++List.replicate (l.length-(j+1)) 57:=by obtain⟨h1,h2,h3⟩:=h;rw[jY h1] at h2 h3;exact⟨h3,by rw[aR];omega,h2⟩
theorem UpR.next {l xs:List Nat} {j:Nat} (h:UpR l (j+1) xs) (h9:l.getD j 0=57):UpR l j (xs.set j 48):=by
 obtain⟨h1,h2,h3⟩:=h.split;have hj:=h.1;rw[h9] at h1 h3;have e:l.length-j=l.length-(j+1)+1:=by omega
 refine⟨by omega,?_,?_⟩
 ·rw[e,List.replicate_succ,←List.singleton_append,←aD];exact h3
 ·have:=CC (l.take j) (List.replicate (l.length-(j+1)) 48) 57 48;rw[h2] at this;rw[h1,this,e,List.replicate_succ];simp
theorem UpR.done {l xs:List Nat} {j:Nat} (h:UpR l (j+1) xs) (hl:∀ c∈l,dX c) (h9:l.getD j 0<57):(∀ c∈xs.set j (l.getD j 0+1),dX c)∧cX (xs.set j (l.getD j 0+1))=cX l+1:=by
 obtain⟨h1,h2,h3⟩:=h.split;have hj:=h.1;have hset:=CC (l.take j) (List.replicate (l.length-(j+1)) 48) (l.getD j 0) (l.getD j 0+1);rw[h2,←h1] at hset
 have hc:dX (l.getD j 0):=by rw[az,ag (by omega)];exact hl _ (ji _)
 unfold dX at hc;have d48:dX 48:=by unfold dX;omega
 have d57:dX 57:=by unfold dX;omega
 rw[hset];refine⟨?_,?_⟩
 ·intro c hcm
  rcases bj.mp hcm with h4|h4
  ·rcases bj.mp h4 with h5|h5
   ·exact hl c (gL h5)
   ·simp only[ij] at h5;subst h5;unfold dX;omega
  ·exact sS _ _ d48 c h4
 ·have e1:cX l=cX (l.take j++[l.getD j 0])*10 ^ (l.length-(j+1))+cX (List.replicate (l.length-(j+1)) 57):=by have:=pN (l.take j++[l.getD j 0]) (List.replicate (l.length-(j+1)) 57) (sS _ _ d57);rw[←h3,dj] at this;exact this
  rw[pN _ _ (sS _ _ d48),dj,za,e1,ja,ja,aJ (by omega),aJ (by omega)];have e2:=zb (l.length-(j+1));rw[fW (_*_) (cX _) 1,e2,show cX (l.take j)*10+(l.getD j 0+1-48)=cX (l.take j)*10+(l.getD j 0-48)+1 by omega,bS _ 1];omega
theorem UpR.all {l xs:List Nat} (h:UpR l 0 xs):(∀ c∈49::xs,dX c)∧cX (49::xs)=cX l+1∧xs.length=l.length∧cX l+1=10 ^ l.length:=by
 obtain⟨h1,h2,h3⟩:=h;simp only[List.take_zero,List.nil_append,Nat.sub_zero] at h2 h3;have d48:dX 48:=by unfold dX;omega
 have e1:cX l+1=10 ^ l.length:=by
  have:=zb l.length
  rwa [←h2] at this
 refine⟨?_,?_,by rw[h3];simp,e1⟩
 ·intro c hc;rw[h3] at hc
  rcases bM.mp hc with h4|h4
  ·subst h4;unfold dX;omega
  ·exact sS _ _ d48 c h4
 ·rw[e1,h3,←List.singleton_append,pN _ _ (sS _ _ d48),za,dj]
  show 1*10 ^ l.length+0=_
  omega
def Byt (g:Nat) (w:World) (xs:List Nat):Prop:=∀ i,i<xs.length→w.cell? ⟨g,i,none⟩=some (.int .u8 (xs.getD i 0:Nat))∧w.frozen? ⟨g,i,none⟩=false
theorem Byt.store {g:Nat} {w:World} {xs:List Nat} (h:Byt g w xs) {j:Nat} (hj:j<xs.length) (c:Nat):Byt g (w.setCell ⟨g,j,none⟩ (.int .u8 (c:Nat))) (xs.set j c):=by
 intro i hi;rw[dO] at hi;obtain⟨h1,h2⟩:=h i hi;refine⟨?_,by rw[ml];exact h2⟩
 by_cases e:i=j
 ·subst e;rw[World.cell?_setCell_same w _ _ h1];simp[az,hi]
 ·rw[kJ (w:=w) (a:=⟨g,j,none⟩) (b:=⟨g,i,none⟩) (h:=by intro e2;simp at e2;try omega),h1];simp[az,Ne.symm e]
theorem OD (s:ByteArray) (cap:Nat) (w:World) (hc:s.size≤cap) (e:TypeId):Byt w.heap.size (w.drew.alloc (.cells (bytesRow s cap) e ((bytesRow s cap).size,(bytesRow s cap).size+1))) (bl s):=by
 intro i hi;rw[aL] at hi;have hget:=bytesRow_at s cap i hi;have hcell:(w.drew.alloc (.cells (bytesRow s cap) e ((bytesRow s cap).size,(bytesRow s cap).size+1))).heap[w.heap.size]?=some (.cells (bytesRow s cap) e ((bytesRow s cap).size,(bytesRow s cap).size+1)):=iZ w.drew _;refine⟨?_,?_⟩
 ·unfold World.cell?;simp only[hcell];rw[hget,←qD s i hi];rfl
 ·unfold World.frozen?;simp only[hcell];have:i<(bytesRow s cap).size:=by unfold bytesRow;simp;omega
  simp;omega
def Mh (s:ByteArray) (w:World) (e:Ending) (w':World):Prop:=∃ t:ByteArray,e=.returned (.string t)∧xH t∧cX (bl t)=cX (bl s)+1∧(t.size=s.size∨t.size=s.size+1∧cX (bl s)+1=10 ^ s.size)∧Below w.heap.size w w'
theorem Ax {g:Nat} {W:World} {xs:List Nat} (h:Byt g W xs) (Lv:∀ c∈xs,c<256) (cap n:Nat) (hn:xs.length=n):
  ∃ t:ByteArray,bl t=xs∧t.size=n∧Sem.run Tryz.prog (convert 147 9 (.slice (some ⟨g,0,none⟩) n cap)) W=.ok (.string t) W:=by
 have hback:(xs.map UInt8.ofNat).map UInt8.toNat=xs:=by
  rw[kG]
  conv=>rhs;rw[←nD xs]
  apply nT
  intro c hc;simp[ej (Lv c hc)]
 have hb:bl ⟨(xs.map UInt8.ofNat).toArray⟩=xs:=by unfold bl;simpa using hback
 refine⟨⟨(xs.map UInt8.ofNat).toArray⟩,hb,by rw[←aL,hb,hn],?_⟩
 have h1:=js (P:=Tryz.prog) W 147 9 5 ⟨g,0,none⟩ cap (xs.map UInt8.ofNat) Tryz.underlying147 Tryz.underlying5 Tryz.underlying9 (fun j hj=>by
  rw[aU] at hj;have h2:=(h j hj).1;have hadd:(⟨g,0,none⟩:Addr).add j=⟨g,j,none⟩:=by unfold Addr.add;split<;>simp_all
  rw[hadd,h2];have:(xs.map UInt8.ofNat)[j]'(by simpa using hj)=UInt8.ofNat xs[j]:=by simp
  rw[this,az,ag hj]
  simp[ej (Lv _ (ji hj))])
 rw[aU,hn] at h1;exact h1
theorem UpR.get {l xs:List Nat} {j:Nat} (h:UpR l (j+1) xs):xs.getD j 0=l.getD j 0:=by obtain⟨h1,h2,_⟩:=h.split;rw[h1,aD,az,bN (by omega)];simp[h2]
theorem GF {l:List Nat} (h:∀ c∈l,dX c):∀ c∈l,c<256:=fun c hc=>by have:=h c hc;unfold dX at this;omega
set_option maxRecDepth 100000 in
theorem upR (s:ByteArray) (w:World) (hs:xH s) (hl:s.size≤100):
  Calls Tryz.prog 87 #[.string s] w (Mh s w):=by
 have hbl:=aL s;have hcv:=run_bytes_of_string (P:=Tryz.prog) w 9 147 5 s Tryz.underlying9 Tryz.underlying147 Tryz.underlying5;have hby:=OD s _ w (sN w s.size 0 5) 5;have hbel:Below w.heap.size w (w.drew.alloc (.cells (bytesRow s (grownCap w s.size 0 5)) 5 ((bytesRow s (grownCap w s.size 0 5)).size,(bytesRow s (grownCap w s.size 0 5)).size+1))):=(cR w 1).alloc (aq _) _;obtain⟨W0,hW0⟩:∃ W0,w.drew.alloc (.cells (bytesRow s (grownCap w s.size 0 5)) 5 ((bytesRow s (grownCap w s.size 0 5)).size,(bytesRow s (grownCap w s.size 0 5)).size+1))=W0:=⟨_,rfl⟩;rw[hW0] at hcv hby hbel;obtain⟨cap,hcap⟩:∃ cap,grownCap w s.size 0 5=cap:=⟨_,rfl⟩;rw[hcap] at hcv;obtain⟨g,hg⟩:∃ g,w.heap.size=g:=⟨_,rfl⟩;rw[hg] at hcv hby hbel;unfold Mh;rw[hg];obtain⟨n,hn⟩:∃ n,s.size=n:=⟨_,rfl⟩;rw[hn] at hcv hl hbl ⊢;have HBY:=aj hby;have PZ:=aj hbel;have HS:=aj hs;have HB:=aj hbl;have HN:=aj hn;clear hby hbel hs hbl hn hg hW0 hcap;have Yq:Sem.run Tryz.prog (convert 9 147 (.string s)) w=.ok (.slice (some ⟨g,0,none⟩) n cap) W0:=hcv;clear hcv;go_enter Tryz.func87,Tryz.ntmps87
 go_wp2_with fail
 go_loopw [4] (fun i wr=>∃ (j:Nat) (xs:List Nat),i=.int .i64 ((j:Int)-1)∧j≤n∧xs.length=n∧Hid (UpR (bl s) j xs)∧Hid (Byt g wr xs)∧Hid (Below g w wr)) (fun i _=>(intOf i+1).toNat)
 case atStart=>exact⟨n,bl s,rfl,aq _,HB.out,aj (by have:=UpR.start (bl s);rwa [HB.out] at this),HBY,PZ⟩
 case round=>
  obtain⟨j,xs,rfl,hj,hxl,hU,hY,hB⟩:=hrel
  by_cases hp:0<j
  ·obtain⟨j,rfl⟩:∃ q,j=q+1:=⟨j-1,by omega⟩;have hj1:((j+1:Nat):Int)-1=(j:Int):=by omega
   rw[hj1];obtain⟨hcell,hfr⟩:=hY.out j (by omega);rw[hU.out.get] at hcell;obtain⟨c,hc⟩:∃ c,(bl s).getD j 0=c:=⟨_,rfl⟩;rw[hc] at hcell
   have hdig:48≤c∧c≤57:=by
    have h1:dX ((bl s).getD j 0):=by rw[az,ag (by rw[HB.out];omega)];exact HS.out _ (ji _)
    rw[hc] at h1;exact h1
   obtain⟨hd1,hd2⟩:=hdig;have HC:=aj hc;clear hc
   by_cases h9:c<57
   ·have hst:=hY.out.store (j:=j) (by omega) (c+1);have hdn:=hU.out.done HS.out (by rw[HC.out];exact h9);rw[HC.out] at hdn;obtain⟨t,ht1,ht2,ht3⟩:=Ax hst (GF hdn.1) cap n (by rw[dO];exact hxl);have HT1:=aj ht1;have HT2:=aj ht2;have xx:=aj hdn;have HB2:=aj (hB.out.setCell (p:=⟨g,j,none⟩) (aq _) (.int .u8 ((c+1:Nat):Int)));have hc1:((c+1:Nat):Int)=(c:Int)+1:=by omega
    rw[hc1] at ht3;clear hst hdn ht1 ht2 hc1;go_wp2_with fail
    go_ret;exact⟨t,rfl,by unfold xH;rw[HT1.out];exact xx.out.1,by rw[HT1.out];exact xx.out.2,.inl HT2.out,HB2.out⟩
   ·obtain rfl:c=57:=by omega
    have HB2:=aj (hB.out.setCell (p:=⟨g,j,none⟩) (aq _) (.int .u8 ((48:Nat):Int)));have HST:=aj (hY.out.store (j:=j) (by omega) 48);have HU2:=aj (hU.out.next HC.out);go_wp2_with fail
    go_roundw
    case rel=>exact⟨j,xs.set j 48,rfl,by omega,by rw[dO];exact hxl,HU2,HST,HB2⟩
    case measure=>simp[intOf]
  ·obtain rfl:j=0:=by omega
   have hall:=hU.out.all;have Lv:=GF hall.1;obtain⟨t,ht1,ht2,ht3⟩:=Ax hY.out (fun c hc=>Lv c (by simp[hc])) cap n hxl
   have hb1:bl ((⟨#[49]⟩:ByteArray)++t)=49::xs:=by rw[←ht1];unfold bl;simp
   have hs1:((⟨#[49]⟩:ByteArray)++t).size=n+1:=by rw[←aL,hb1,List.length_cons,hxl]
   obtain⟨t2,h2⟩:∃ t2,(⟨#[49]⟩:ByteArray)++t=t2:=⟨_,rfl⟩;rw[h2] at hb1 hs1;have HT:=aj h2;have HB1:=aj hb1;have D9:=aj hs1;have rQ:=aj hall;have htl:t.size≤100:=by omega
   clear h2 hb1 hs1 hall Lv ht1 ht2;go_wp2_with fail
   go_ret;exact⟨t2,by rw[←HT.out];rfl,by unfold xH;rw[HB1.out];exact rQ.out.1,by rw[HB1.out];exact rQ.out.2.1,.inr ⟨D9.out,by have:=rQ.out.2.2.2;rwa [HB.out] at this⟩,hB.out⟩
def Pk (u:Nat) (q:Int) (L:Nat) (r:Option Nat):Prop:=
 (¬eZ (cN L q) (cC q) u∧¬eZ (cN (L+1) q) (cC q) u∧r=none)∨
 (eZ (cN L q) (cC q) u∧¬eZ (cN (L+1) q) (cC q) u∧r=some L)∨
 (¬eZ (cN L q) (cC q) u∧eZ (cN (L+1) q) (cC q) u∧r=some (L+1))∨
 (eZ (cN L q) (cC q) u∧eZ (cN (L+1) q) (cC q) u∧
  ((cN (2*L+1) q<2*(V u*cC q)∨cN (2*L+1) q=2*(V u*cC q)∧L % 2=1)∧r=some (L+1)∨
  ¬(cN (2*L+1) q<2*(V u*cC q)∨cN (2*L+1) q=2*(V u*cC q)∧L % 2=1)∧r=some L))
theorem Hl {u:Nat} (h0:0<u):2*V u<(st u+st (u-1))*10 ^ 16:=by
 have hB:B=4503599627370496:=rfl
 by_cases h:u<B
 ·have h1:st u=1:=by unfold st;rw[fa h]
  have h2:st (u-1)=1:=by unfold st;rw[fa (by omega)]
  rw[h1,h2,mR h,hB] at *;omega
 ·obtain⟨e,m,rfl,h1,h2⟩:=wu u (by omega);rw[rL e m h1 h2,u4 e m h1 h2];have hp:0<2 ^ e:=bf (by decide)
  by_cases hm:B<m
  ·have h3:e*B+m-1=e*B+(m-1):=by omega
   rw[h3,u4 e (m-1) (by omega) (by omega)];have h4:2*(m*2 ^ e)=(2*m)*2 ^ e:=by rw[aA]
   have h5:(2 ^ e+2 ^ e)*10 ^ 16=(2*10 ^ 16)*2 ^ e:=by rw[←Nat.two_mul,aA,aK (2 ^ e),aA]
   rw[h4,h5];refine bq ?_ hp;rw[hB] at h2;omega
  ·obtain rfl:m=B:=by omega
   have h3:B*2 ^ e*2<2 ^ e*10 ^ 16:=by rw[aK B,aA];exact oW (by decide) hp
   have h4:(2 ^ e+st (e*B+B-1))*10 ^ 16=2 ^ e*10 ^ 16+st (e*B+B-1)*10 ^ 16:=bS _ _ _;rw[h4];omega
theorem T7 {u L:Nat} {p:Int} (h0:0<u) (hp:cN 1 (p-1)≤V u*cC (p-1)) (hf:gO u (p-17) L):eZ (cN L (p-17)) (cC (p-17)) u∨eZ (cN (L+1) (p-17)) (cC (p-17)) u:=by
 obtain⟨q,hq⟩:∃ q,p-17=q:=⟨_,rfl⟩;rw[hq] at hf ⊢;rw[show p-1=q+(16:Nat) by omega] at hp;have hsh:=mr 1 16 q;obtain⟨hf1,hf2⟩:=hf;have hD:=gr q;have hD2:=gr (q+(16:Nat))
 have h16:cN (1*10 ^ 16) q≤V u*cC q:=by have h1:cN 1 (q+(16:Nat))*cC q≤V u*cC (q+(16:Nat))*cC q:=aI _ hp;rw[←hsh,aA,aK (cC (q+(16:Nat))),←aA] at h1;exact eO h1 hD2
 have hN:cN (L+1) q=cN L q+cN 1 q:=by rw[jR,jR,jR,←bS,←bS]
 have YK:cN (1*10 ^ 16) q=10 ^ 16*cN 1 q:=by rw[jR,jR];simp only[dv,aA]
 rw[YK] at h16;obtain⟨v,rfl⟩:∃ v,u=v+1:=⟨u-1,by omega⟩;have hsp:=Hl h0;rw[cW] at hsp;have hv1:=uN v;have hv2:=uN (v+1);have Lf:=AW v;have Fc:=AW (v+1);obtain⟨D,uI⟩:∃ D,cC q=D:=⟨_,rfl⟩;obtain⟨N,Yz⟩:∃ D,cN L q=D:=⟨_,rfl⟩;obtain⟨S,hSS⟩:∃ D,cN 1 q=D:=⟨_,rfl⟩;rw[uI] at hf1 hf2 h16 hD ⊢;rw[hN,Yz,hSS] at hf2;rw[hN,Yz,hSS];rw[Yz] at hf1;rw[hSS] at h16;have g1:0<st v*D:=df Lf hD;have g2:0<st (v+1)*D:=df Fc hD;have e1:V (v+1)*D=V v*D+st v*D:=by rw[hv1,bS]
 have e2:V (v+1+1)*D=V (v+1)*D+st (v+1)*D:=by rw[hv2,bS]
 have e3:2*(V (v+1)*D)<10 ^ 16*(st (v+1)*D+st v*D):=by
  have:=bq hsp hD
  have r1:(st (v+1)+st v)*10 ^ 16*D=10 ^ 16*(st (v+1)*D+st v*D):=by rw[←bS,aK (st (v+1)+st v) (10 ^ 16),aA]
  rw[r1,aA] at this;exact this
 have e4:2*S<st (v+1)*D+st v*D:=by
  have:10 ^ 16*(2*S)<10 ^ 16*(st (v+1)*D+st v*D):=by omega
  exact Nat.lt_of_mul_lt_mul_left this
 by_cases hc:(V v+V (v+1))*D<2*N
 ·refine .inl ⟨.inr (.inl (by rw[cW];exact hc)),.inl ?_⟩;rw[bS];omega
 ·refine .inr ⟨.inr (.inl ?_),.inl ?_⟩
  ·rw[cW,bS];omega
  ·rw[bS] at hc ⊢;omega
end fl
end Go.Proofs.YthpdlidbaojlbaaGreatDoor
