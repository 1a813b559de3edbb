/- The walk of score's laid. -/
import Derived.Test.YthpdlidbaojlbaaGreatDoorQ43
import Derived.Test.YthpdlidbaojlbaaGreatDoorQ44
set_option linter.unusedVariables false
set_option linter.unusedSimpArgs false
set_option maxHeartbeats 4000000
open Go.ChangeShapes Go.WideShapes Go.ChangeAt Go.RowKit
namespace Go.Proofs.YthpdlidbaojlbaaGreatDoor
namespace fl
structure ad3 (w:World):Prop where
 fo:FO w
 tab:Lib.TabIs Tryz.prog w "internal/strconv.uint64pow10" .u64 Lib.pow10Tab
theorem ad3.on {w w':World} (h:ad3 w) (hb:Below w.heap.size w w'):ad3 w':=⟨h.fo.on hb,Lib.tabBelow_of_tabIs h.tab w' hb⟩
theorem da (s t:ByteArray):bl (s++t)=bl s++bl t:=by unfold bl;simp
theorem cI (s:ByteArray) (a b:Nat):bl (s.extract a b)=((bl s).drop a).take (b-a):=by unfold bl;rw[Lib.extract_data,um,uo]
def idg (q:Int):List Nat:=(if q<0 then [45] else [])++ddg q.natAbs
theorem GL (q:Int):bl ⟨(Lib.itoa q).toArray⟩=idg q:=by
 rw[ui];unfold Lib.itoa idg
 by_cases h:q<0
 ·rw[aQ h,aQ h];rfl
 ·rw[aJ h,aJ h,show q.toNat=q.natAbs by omega];rfl
def Mr (q:Int) (w:World) (e:Ending) (w':World):Prop:=∃ t:ByteArray,e=.returned (.string t)∧bl t=idg q∧t.size≤30∧Below w.heap.size w w'
theorem oP {n k:Nat} (h:n<10 ^ (k+1)):(ddg n).length≤k+1:=by
 induction k generalizing n with
 | zero=>rw[bD,ke] at h;rw[mG h];simp
 | succ k ih=>
  by_cases hn:n<10
  ·rw[mG hn];simp
  ·rw[tM hn,aM,List.length_singleton];have:=ih (n:=n / 10) (by rw[gw (by decide)];exact h);omega
theorem Pu (q:Int) (w:World) (h1:-1000000≤q) (h2:q≤1000000) (hf:ad3 w):
  Calls Tryz.prog 160 #[.int .i64 q] w (Mr q w):=by
 refine(Tryz.strconv_Itoa q (by omega) (by omega) w hf.tab).mono ?_;rintro e w' ⟨rfl,k,os,rfl⟩;refine⟨_,rfl,GL q,?_,tg _ _ (aq _) _ _⟩;rw[←aL,GL];unfold idg;have:=oP (n:=q.natAbs) (k:=9) (by omega);rw[aM]
 split<;>simp<;>omega
theorem It (l:List Nat) (h:∀ x∈l,dX x):ta l false:=by
 have key:∀ n,∀ l:List Nat,l.length=n→(∀ x∈l,dX x)→ta l false:=by
  intro n
  induction n with
  | zero=>intro l hl _;rw[bU.1 hl];exact .nil
  | succ n ih=>
   intro l hl h
   rcases iu l with e|⟨t,c,e⟩
   ·rw[e] at hl;simp at hl
   ·rw[mm] at e;subst e;exact .dig (ih t (by simpa using hl) (fun x hx=>h x (by simp[hx]))) (h c (by simp))
 exact key _ l rfl h
theorem M6 {s:ByteArray} {d:Nat} {q:Int} (hd:d<10 ^ 19) (h1:-10000≤q) (h2:q≤10000) (hs:bl s=ddg d++[101]++idg q):
  Pd s false (ddg d) false q∧(rf (ddg d)).tr=false∧cX (ddg d)=d∧wq (ddg d) q=q:=by
 have hok:=BP d;have hm:=It _ hok.1;have ok:=ve hm;have hl:=oP (k:=18) hd;have hq:=oP (n:=q.natAbs) (k:=4) (by omega);have XQ:=iH q.natAbs;have XS:=BP q.natAbs
 have hex:Ex ([101]++idg q) q:=by
  have key:=fun sg neg hsg=>Ex.some (c:=101) (sg:=sg) (ds:=ddg q.natAbs) (neg:=neg) (.inl rfl) hsg XQ hq XS.1
  unfold idg
  by_cases hn:q<0
  ·rw[aQ hn];have:=key [45] true (.inr (.inr ⟨rfl,rfl⟩));rw[aQ rfl,XS.2,show -((q.natAbs:Nat):Int)=q by omega] at this;simpa using this
  ·rw[aJ hn];have:=key [] false (.inl ⟨rfl,rfl⟩);rw[aJ (by decide),XS.2,show((q.natAbs:Nat):Int)=q by omega] at this;simpa using this
 refine⟨⟨⟨[],[101]++idg q,by rw[hs];simp,.inl ⟨rfl,rfl⟩,hex⟩,hm,?_,?_⟩,?_,hok.2,?_⟩
 ·by_cases hh:(rf (ddg d)).dig=true
  ·exact hh
  ·exfalso
   have h3:=ok.dig (by simpa using hh);have hp:=iH d;have hmem:(ddg d)[0]∈ddg d:=ji hp;have h4:=h3 _ hmem;have h5:=hok.1 _ hmem;unfold dX at h5;omega
 ·rw[←aL,hs];unfold idg;simp only[aM,List.length_singleton]
  split<;>simp<;>omega
 ·obtain⟨r,r1,r2,r3⟩:=ok.num;have h3:=ok.ndm;have h4:=ok.nd;have h5:(rf (ddg d)).nd-(rf (ddg d)).ndm=0:=by omega
  rw[h5,Nat.pow_zero] at r1
  by_cases hh:(rf (ddg d)).tr=true
  ·have:=r3.1 hh;omega
  ·simpa using hh
 ·have:=ok.PE rfl;unfold wq;rw[this];simp
def SS (d:Nat) (q:Int) (u:Nat) (w:World) (e:Ending) (w':World):Prop:=∃ b,e=.returned (.bool b)∧(b=true↔eZ (cN d q) (cC q) u)∧Below w.heap.size w w'
def SQ (d:Nat) (q:Int) (w:World) (e:Ending) (w':World):Prop:=∃ v,eZ (cN d q) (cC q) v∧(v<cD∧e=.returned (.tuple #[.float .f64 v,.nilIface])∨cD≤v∧∃ x p,e=.returned (.tuple #[.float .f64 x,.iface 325 p]))∧Below w.heap.size w w'
theorem NA (s:ByteArray) (d:Nat) (q:Int) (w:World) (hf:FO w) (hd:d<10 ^ 19) (h1:-10000≤q) (h2:q≤10000) (hs:bl s=ddg d++[101]++idg q):
  Calls Tryz.prog 187 #[.string s,.int .i64 64] w (SQ d q w):=by
 obtain⟨hw,ht,e1,e2⟩:=M6 hd h1 h2 hs;refine(CX s false (ddg d) q w hf (aF hw.short (by decide)) (fun w hf=>OJ s false (ddg d) false q w hw ht hf (fun w=>EA s false (ddg d) false q w hw))).mono ?_;rintro e w' ⟨v,hv,hr,hb⟩;rw[e1,e2] at hv;refine⟨v,hv,?_,hb⟩
 rcases hr with⟨a,b⟩|⟨a,p,b⟩
 ·exact .inl ⟨a,by rw[b,show sgw false+v=v from bD v]⟩
 ·exact .inr ⟨a,_,p,b⟩
set_option maxRecDepth 100000 in
theorem KG (d:Nat) (q:Int) (u:Nat) (w:World) (hf:ad3 w) (hd:d<10 ^ 19) (h1:-10000≤q) (h2:q≤10000) (hu:u<cD):
  Calls Tryz.prog 157 #[.int .u64 d,.int .i64 q,.float .f64 u] w (SS d q u w):=by
 have cu:=oO d (eI hd (by decide)) w hf.tab;have HF:=aj hf;have HD:=aj hd;have HU:=aj hu
 have hl:Hid ((Lib.decDigits d).length≤19):=aj (by
  have:=oP (k:=18) hd
  rwa [ze,←ko] at this)
 clear hf hd hu;go_enter Tryz.func157,Tryz.ntmps157
 go_wp2_with fail
 refine cu.mono ?_;clear cu;rintro e w1 ⟨rfl,hb1⟩;have hsz:(⟨(Lib.decDigits d).toArray⟩:ByteArray).size≤19:=hl.out;have HT:Hid (bl ⟨(Lib.decDigits d).toArray⟩=ddg d):=aj (ui _);obtain⟨t,ht⟩:∃ t:ByteArray,⟨(Lib.decDigits d).toArray⟩=t:=⟨_,rfl⟩;rw[ht] at hsz HT ⊢;have zv:=aj (HF.out.on hb1);have B1:=aj hb1;clear ht hb1;go_wp2_with fail
 refine(Pu q _ (by omega) (by omega) zv.out).mono ?_;rintro e w2 ⟨t2,rfl,ht2,hs2,hb2⟩;have Ci:=aj (zv.out.on hb2);have B2:=aj (B1.out.trans (hb2.mono B1.out.size));have HT2:=aj ht2;clear ht2 hb2;go_wp2_with fail
 have hw:bl (t++(⟨#[101]⟩:ByteArray)++t2)=ddg d++[101]++idg q:=by rw[da,da,HT.out,HT2.out];rfl
 refine(NA _ d q _ Ci.out.fo HD.out h1 h2 hw).mono ?_;clear hw;rintro e w3 ⟨v,hv,hr,hb3⟩;have HV:=aj hv;have B3:=aj (B2.out.trans (hb3.mono B2.out.size));clear hv hb3
 rcases hr with⟨Tr,rfl⟩|⟨Tr,x,p,rfl⟩
 ·by_cases hvu:v=u
  ·have ho:FloatKind.f64.format.order v u=some .eq:=by have:=H6 v u Tr HU.out;rw[this,hvu];simp
   have HE:=aj hvu;clear hvu Tr;go_wp2_with fail
   go_ret;exact⟨true,rfl,⟨(fun _=>by rw[←HE.out];exact HV.out),fun _=>rfl⟩,B3.out⟩
  ·obtain⟨o,ho,hne⟩:∃ o,FloatKind.f64.format.order v u=some o∧o≠.eq:=by
    refine⟨_,H6 v u Tr HU.out,?_⟩;rw[ne_eq,Int.compare_eq_eq];intro e
    rcases fH v u with h|h|h
    ·have:=sZ h;omega
    ·exact hvu h
    ·have:=sZ h;omega
   have HE:Hid (¬eZ (cN d q) (cC q) u):=aj (fun h=>hvu (nh (gr q) HV.out h));clear hvu Tr
   rcases o with _|_|_
   ·go_wp2_with fail
    go_ret;exact⟨false,rfl,⟨(fun h=>by cases h),fun h=>absurd h HE.out⟩,B3.out⟩
   ·exact absurd rfl hne
   ·go_wp2_with fail
    go_ret;exact⟨false,rfl,⟨(fun h=>by cases h),fun h=>absurd h HE.out⟩,B3.out⟩
 ·have HE:Hid (¬eZ (cN d q) (cC q) u):=aj (fun h=>by
   have:=nh (gr q) HV.out h;have:=HU.out
   omega)
  clear Tr;go_wp2_with fail
  go_ret;exact⟨false,rfl,⟨(fun h=>by cases h),fun h=>absurd h HE.out⟩,B3.out⟩
structure Sm (n:Nat):Prop where
 lt:n<Bs ^ KC
structure SmA (n:Nat):Prop where
 lt:n<Bs ^ KA
def Cb (u:Nat) (w:World) (e:Ending) (w':World):Prop:=∃ (t:ByteArray) (p:Int),e=.returned (.tuple #[.string t,.int .i64 p])∧Sh u (bl t) p∧Below w.heap.size w w'
theorem FX {u:Nat} {t:List Nat} {p:Int} (h0:0<u) (hu:u<cD) (h:Sh u t p):0<t.length∧t.length≤20∧-400≤p∧p≤401:=by
 obtain⟨q,k,L,D,h1,h2,h3,h4,h5,rfl,rfl⟩:=h;have hk:=yx h0 h2 h3;obtain⟨r1,r2⟩:=iE h2 h4 h1;have hD:=qX h5;have hp1:0<10 ^ (k-1):=bf (by decide)
 have hl:(ddg D).length=k∨(ddg D).length=k+1:=by
  obtain⟨j,rfl⟩:∃ j,k=j+1:=⟨k-1,by omega⟩;rw[cW] at r1
  by_cases hh:D<10 ^ (j+1)
  ·exact .inl (BQ (by omega) hh)
  ·have:D=10 ^ (j+1):=by omega
   rw[this];exact .inr (BQ (aq _) (nz (by decide) (by omega)))
 have hs:=Hi (ddg D);have hne:=Hj (oQ (n:=D) (by omega)) (iH D)
 have q1:-400≤q:=by
  by_cases hh:-400≤q
  ·exact hh
  ·exfalso
   have:=h2.2;rw[py,jR,show q.toNat=0 by omega,Nat.pow_zero,bB,dv] at this;have g1:=zO u;have g2:10 ^ DX≤10 ^ (-q).toNat:=aS (by decide) (by rw[vS];omega);have g3:=FP;have g4:1*10 ^ (-q).toNat≤V u*10 ^ (-q).toNat:=aI _ (by omega);omega
 have q2:q≤400:=by
  by_cases hh:q≤400
  ·exact hh
  ·exfalso
   have:=h2.1;rw[py,jR,show(-(q-1)).toNat=0 by omega,Nat.pow_zero,bB,dv] at this;have g1:=sZ hu;have g2:10 ^ DX*2 ^ K74≤10 ^ (q-1).toNat*2 ^ K74:=aI _ (aS (by decide) (by rw[vS];omega));have g3:=BD;omega
 refine⟨?_,by omega,by omega,by omega⟩;exact bZ.mpr hne
theorem oq {t:List UInt8} {D:Nat} (h:t=Lib.decDigits D):bl ⟨(Lib.trimRightB t 48).toArray⟩=strip (ddg D):=by rw[ui,Em,h];rfl
def ShR (u a b:Nat) (p:Int) (k L R:Nat):Prop:=jd a b p k L R∧R<b*10 ^ p.toNat∧Quiet u p (k+1)
theorem ShR.start {u a b:Nat} {p:Int} (hb:bel a b p):ShR u a b p 0 0 (a*10 ^ (-p).toNat):=⟨jd.start,hb,fun j h1 h2=>by omega⟩
theorem ShR.low {u a b k L R:Nat} {p:Int} (h:ShR u a b p k L R) (h0:0<u) (hb:bel a b p) (ht:Top u p):k≤16∧L<10000000000000000:=by
 have h1:=yx h0 ht h.2.2;have h2:=h.1.le hb;have h3:10 ^ k≤10 ^ 16:=aS (by decide) (by omega);have h4:(10:Nat) ^ 16=10000000000000000:=by decide
 omega
theorem jd.low {a b k L R:Nat} {p:Int} (h:jd a b p (k+1) L R) (hk:k≤16) (hb:bel a b p):L<100000000000000000:=by
 have h2:=h.le hb;have h3:10 ^ (k+1)≤10 ^ 17:=aS (by decide) (by omega);have h4:(10:Nat) ^ 17=100000000000000000:=by decide
 omega
theorem uy {b R:Nat} {p:Int} (hb:SmA b) (hp:p≤900) (hR:R≤b*10 ^ p.toNat*10):Sm R:=by have h:=sk (n:=b) (k:=((p.toNat+1:Nat):Int)) hb.lt (by omega);rw[show(((p.toNat+1:Nat):Int)).toNat=p.toNat+1 by omega,Nat.pow_succ,←aA] at h;exact⟨cE hR h⟩
theorem Gb {u L:Nat} {q:Int} {b1 b2:Bool} (h1:b1=true↔eZ (cN L q) (cC q) u) (h2:b2=true↔eZ (cN (L+1) q) (cC q) u) (e1:b1=false) (e2:b2=false):Pk u q L none:=.inl ⟨(fun h=>by rw[h1.2 h] at e1;cases e1),(fun h=>by rw[h2.2 h] at e2;cases e2),rfl⟩
theorem Ph {u L:Nat} {q:Int} {b1 b2:Bool} (h1:b1=true↔eZ (cN L q) (cC q) u) (h2:b2=true↔eZ (cN (L+1) q) (cC q) u) (e1:b1=true) (e2:b2=false):Pk u q L (some L):=.inr (.inl ⟨h1.1 e1,(fun h=>by rw[h2.2 h] at e2;cases e2),rfl⟩)
theorem Pj {u L:Nat} {q:Int} {b1 b2:Bool} (h1:b1=true↔eZ (cN L q) (cC q) u) (h2:b2=true↔eZ (cN (L+1) q) (cC q) u) (e1:b1=false) (e2:b2=true):Pk u q L (some (L+1)):=.inr (.inr (.inl ⟨(fun h=>by rw[h1.2 h] at e1;cases e1),h2.1 e2,rfl⟩))
theorem qZ {u L:Nat} {q:Int} (h1:eZ (cN L q) (cC q) u) (h2:eZ (cN (L+1) q) (cC q) u) (h:cN (2*L+1) q<2*(V u*cC q)∨cN (2*L+1) q=2*(V u*cC q)∧L % 2=1):Pk u q L (some (L+1)):=.inr (.inr (.inr ⟨h1,h2,.inl ⟨h,rfl⟩⟩))
theorem qY {u L:Nat} {q:Int} (h1:eZ (cN L q) (cC q) u) (h2:eZ (cN (L+1) q) (cC q) u) (h:¬(cN (2*L+1) q<2*(V u*cC q)∨cN (2*L+1) q=2*(V u*cC q)∧L % 2=1)):Pk u q L (some L):=.inr (.inr (.inr ⟨h1,h2,.inr ⟨h,rfl⟩⟩))
set_option maxRecDepth 100000 in
theorem Hn (u:Nat) (w:World) (hf:ad3 w) (h0:0<u) (hu:u<cD):
  Calls Tryz.prog 114 #[.float .f64 u] w (Cb u w):=by
 have HF:=aj hf;have H0:=aj h0;have HU:=aj hu;have c1:=Q5 u w h0 hu;clear hf h0 hu;go_enter Tryz.func114,Tryz.ntmps114
 go_wp2_with fail
 refine c1.mono ?_;clear c1;rintro e w1 ⟨x,y,a,b,rfl,hx,hy,hfr,ha,hb,hb1⟩;have X1:=aj hx;have Y1:=aj hy;have FR:=aj hfr;have HA:Hid (SmA a):=aj ⟨ha⟩;have HB:Hid (SmA b):=aj ⟨hb⟩;have B1:=aj hb1;clear hx hy hfr ha hb hb1;go_wp2_with fail
 refine(SM x y u a b _ X1.out Y1.out FR.out H0.out HU.out HA.out.lt HB.out.lt).mono ?_;rintro e w2 ⟨p,rfl,hp1,hp2,hbel,htop,hb2⟩;have X2:=aj (X1.out.on hb2);have Y2:=aj (Y1.out.on hb2);have B2:=aj (B1.out.trans (hb2.mono B1.out.size));have BE:=aj hbel;have TP:=aj htop;clear hbel htop hb2 X1 Y1;go_wp2_with fail
 refine(Nj x a (-p) _ X2.out HA.out.lt (by omega) (by omega)).mono ?_;rintro e w3 ⟨r0,rfl,hr0,hb3⟩;have R3:=aj hr0;have Y3:=aj (Y2.out.on hb3);have B3:=aj (B2.out.trans (hb3.mono B2.out.size));clear hr0 hb3 X2 Y2;go_wp2_with fail
 refine(Nj y b p _ Y3.out HB.out.lt (by omega) (by omega)).mono ?_;rintro e w4 ⟨bv,rfl,hbv,hb4⟩;have R4:=aj (R3.out.on hb4);have V4:=aj hbv;have B4:=aj (B3.out.trans (hb4.mono B3.out.size));clear hbv hb4 R3 Y3;have HBq:Hid (0<b*10 ^ p.toNat):=aj (df FR.out.pb (bf (by decide)));go_wp2_with fail
 go_loopw [6,7,9,10] (fun pv rv lv kv wr=>∃ (k L R:Nat),pv=.int .i64 p∧lv=.int .u64 L∧kv=.int .i64 ((k:Int)+1)∧L<10000000000000000∧k≤16∧Hid (ShR u a b p k L R)∧Hid (Num .u32 wr rv R)∧Hid (Num .u32 wr bv (b*10 ^ p.toNat))∧Hid (Below w.heap.size w wr)) (fun _ _ _ kv _=>20-(intOf kv).toNat)
 case atStart=>exact⟨0,0,_,rfl,rfl,rfl,by decide,by decide,aj (ShR.start BE.out),R4,V4,B4⟩
 case round=>
  clear R4 V4 B4;obtain⟨k,L,R,rfl,rfl,rfl,hL,hk,hS,hR,hV,hB⟩:=hrel;have HRs:Hid (Sm R):=aj (uy (p:=p) HB.out (by omega) (by have:=hS.out.2.1;omega));go_wp2_with fail
  refine(sj _ R 10 _ hR.out (by decide) HRs.out.lt).mono ?_;rintro e w5 ⟨rv,rfl,Lh,hb5⟩;have R5:=aj Lh;have V5:=aj (hV.out.on hb5);have B5:=aj (hB.out.trans (hb5.mono hB.out.size));clear Lh hb5;have HRR:Hid (jd a b p (k+1) (L*10) (R*10)∧R*10<b*10 ^ p.toNat*10):=aj ⟨hS.out.1.ten,bq hS.out.2.1 (by decide)⟩;go_wp2_with fail
  go_loopw [7,9] (fun rv lv wr=>∃ (M Q:Nat),lv=.int .u64 M∧M<100000000000000000∧Hid (jd a b p (k+1) M Q∧Q<b*10 ^ p.toNat*10)∧Hid (Num .u32 wr rv Q)∧Hid (Num .u32 wr bv (b*10 ^ p.toNat))∧Hid (Below w.heap.size w wr)) (fun _ lv _=>1000000000000000000-(intOf lv).toNat)
  case atStart=>exact⟨L*10,R*10,by go_num,by omega,HRR,R5,V5,B5⟩
  case round=>
   clear hL;obtain⟨M,Q,rfl,hM,hT,hQ,hV2,hB2⟩:=hrel;have Zx:Hid (Sm Q):=aj (uy (p:=p) HB.out (by omega) (bW hT.out.2));have HVs:Hid (Sm (b*10 ^ p.toNat)):=aj ⟨sk HB.out.lt (by omega)⟩;go_wp2_with fail
   refine(SC _ _ Q (b*10 ^ p.toNat) _ hQ.out hV2.out Zx.out.lt HVs.out.lt).mono ?_;rintro e w6 ⟨r,rfl,hr1,hr2,hb6⟩;have Q6:=aj (hQ.out.on hb6);have V6:=aj (hV2.out.on hb6);have B6:=aj (hB2.out.trans (hb6.mono hB2.out.size));have RR:=aj hr1;clear hr1 hr2 hb6
   by_cases hge:0≤r
   ·have PT:Hid (b*10 ^ p.toNat≤Q):=aj (dS fun h=>by have:=RR.out.mpr h;omega);have pX:Hid (jd a b p (k+1) (M+1) (Q-b*10 ^ p.toNat)∧Q-b*10 ^ p.toNat<b*10 ^ p.toNat*10):=aj ⟨hT.out.1.sub PT.out,by have:=hT.out.2;omega⟩;have hM1:M+1<100000000000000000:=pX.out.1.low hk BE.out;go_wp2_with fail
    refine(Uk _ _ Q (b*10 ^ p.toNat) _ Q6.out V6.out Zx.out.lt PT.out (by have:=PT.out;have:=HBq.out;omega)).mono ?_;rintro e w7 ⟨Z5,rfl,hr7,Jg⟩;have Q7:=aj hr7;have V7:=aj (V6.out.on Jg);have B7:=aj (B6.out.trans (Jg.mono B6.out.size));clear hr7 Jg;go_wp2_with fail
    go_roundw
    case rel=>exact⟨M+1,_,by go_num,hM1,pX,Q7,V7,B7⟩
    case measure=>simp[intOf];omega
   ·have ZD:Hid (Q<b*10 ^ p.toNat):=aj (RR.out.mp (by omega));have qO:Hid (gO u (p-((k+1:Nat):Int)) M):=aj (hT.out.1.floor FR.out ZD.out);have ZK:=aj (hT.out.1.half FR.out);have ZR:=aj (HF.out.on (by have:=B6.out;exact this));have hkk:p-((k:Int)+1)=p-((k+1:Nat):Int):=by omega
    obtain⟨q,hq⟩:∃ q,p-((k+1:Nat):Int)=q:=⟨_,rfl⟩;rw[hq] at qO ZK hkk;obtain⟨H,hH⟩:∃ H:Nat,M+1=H:=⟨_,rfl⟩;have hHi:(M:Int)+1=(H:Int):=by omega
    have GY:=aj hq;have Cs:=aj hH;clear hq hH;have hq1:-10000≤q:=by omega
    have hq2:q≤10000:=by omega
    go_wp2_with fail
    with_reducible refine(KG M q u _ ZR.out (eI hM (by decide)) hq1 hq2 HU.out).mono ?_
    rintro e w7 ⟨b1,rfl,hn1,Jg⟩;have Q7:=aj (Q6.out.on Jg);have V7:=aj (V6.out.on Jg);have F7:=aj (ZR.out.on Jg);have B7:=aj (B6.out.trans (Jg.mono B6.out.size));have N1:=aj hn1;clear hn1 Jg ZR Q6 V6 B6;go_wp2_with fail
    have hHb:H<1000000000000000000:=by omega
    with_reducible refine(KG H q u _ F7.out (eI hHb (by decide)) hq1 hq2 HU.out).mono ?_
    rintro e w8 ⟨b2,rfl,hn2,Cp⟩;rw[←Cs.out] at hn2;have Q8:=aj (Q7.out.on Cp);have V8:=aj (V7.out.on Cp);have F8:=aj (F7.out.on Cp);have B8:=aj (B7.out.trans (Cp.mono B7.out.size));have N2:=aj hn2;clear hn2 Cp F7 Q7 V7 B7
    rcases b1 with _|_
    ·rcases b2 with _|_
     ·have pX:Hid (ShR u a b p (k+1) M Q):=aj ⟨hT.out.1,ZD.out,hS.out.2.2.next (L:=M) (by rw[GY.out];exact qO.out) (by rw[GY.out];exact Gb N1.out N2.out rfl rfl)⟩;obtain⟨hk2,hM2⟩:=pX.out.low H0.out BE.out TP.out;go_wp2_with fail
      go_roundw
      case rel=>exact⟨k+1,M,Q,rfl,rfl,by go_num,hM2,hk2,pX,Q8,V8,B8⟩
      case measure=>simp[intOf];omega
     ·have HP:Hid (Pk u q M (some H)):=aj (by rw[←Cs.out];exact Pj N1.out N2.out rfl rfl);go_wp2_with fail
      have hD:H<1000000000000000000:=by omega
      with_reducible refine(oO H (by omega) _ F8.out.tab).mono ?_
      rintro e wf ⟨rfl,hbf⟩;have BF:=aj (B8.out.trans (hbf.mono B8.out.size));have qf:Hid (bl ⟨(Lib.decDigits H).toArray⟩=ddg H∧(⟨(Lib.decDigits H).toArray⟩:ByteArray).data.toList=Lib.decDigits H):=aj ⟨ui _,rfl⟩
      have hts:(⟨(Lib.decDigits H).toArray⟩:ByteArray).size≤19:=by rw[←aL,qf.out.1];exact oP (k:=18) (eI hD (by decide))
      obtain⟨t,ht⟩:∃ t:ByteArray,⟨(Lib.decDigits H).toArray⟩=t:=⟨_,rfl⟩;rw[ht] at qf hts ⊢;clear ht hbf;go_wp2_with fail
      with_reducible refine(Tryz.strings_TrimRight_one t 48 (by decide) _ (by omega)).mono ?_
      rintro e Jt ⟨rfl,rfl⟩;go_wp2_with fail
      go_ret2
      refine⟨_,_,rfl,⟨p,k+1,M,H,by omega,TP.out,hS.out.2.2,by rw[GY.out];exact qO.out,by rw[GY.out];exact HP.out,oq qf.out.2,?_⟩,BF.out⟩;rw[←qf.out.1,aL];omega
    ·rcases b2 with _|_
     ·have HP:Hid (Pk u q M (some M)):=aj (Ph N1.out N2.out rfl rfl);go_wp2_with fail
      have hD:M<1000000000000000000:=by omega
      with_reducible refine(oO M (by omega) _ F8.out.tab).mono ?_
      rintro e wf ⟨rfl,hbf⟩;have BF:=aj (B8.out.trans (hbf.mono B8.out.size));have qf:Hid (bl ⟨(Lib.decDigits M).toArray⟩=ddg M∧(⟨(Lib.decDigits M).toArray⟩:ByteArray).data.toList=Lib.decDigits M):=aj ⟨ui _,rfl⟩
      have hts:(⟨(Lib.decDigits M).toArray⟩:ByteArray).size≤19:=by rw[←aL,qf.out.1];exact oP (k:=18) (eI hD (by decide))
      obtain⟨t,ht⟩:∃ t:ByteArray,⟨(Lib.decDigits M).toArray⟩=t:=⟨_,rfl⟩;rw[ht] at qf hts ⊢;clear ht hbf;go_wp2_with fail
      with_reducible refine(Tryz.strings_TrimRight_one t 48 (by decide) _ (by omega)).mono ?_
      rintro e Jt ⟨rfl,rfl⟩;go_wp2_with fail
      go_ret2
      refine⟨_,_,rfl,⟨p,k+1,M,M,by omega,TP.out,hS.out.2.2,by rw[GY.out];exact qO.out,by rw[GY.out];exact HP.out,oq qf.out.2,?_⟩,BF.out⟩;rw[←qf.out.1,aL];omega
     ·have NN:=aj (And.intro (N1.out.1 rfl) (N2.out.1 rfl));clear N1 N2;have I7:Hid (Sm (Q*2)):=aj (uy (p:=p) HB.out (by omega) (by have:=ZD.out;omega));go_wp2_with fail
      refine(sj _ Q 2 _ Q8.out (by decide) Zx.out.lt).mono ?_;rintro e w9 ⟨rv9,rfl,hr9,im⟩;have Q9:=aj hr9;have V9:=aj (V8.out.on im);have F9:=aj (F8.out.on im);have B9:=aj (B8.out.trans (im.mono B8.out.size));clear hr9 im F8 Q8 V8 B8;go_wp2_with fail
      with_reducible refine(SC _ _ (Q*2) (b*10 ^ p.toNat) _ Q9.out V9.out I7.out.lt HVs.out.lt).mono ?_
      rintro e wa ⟨r2,rfl,hr1,hr2,hba⟩;have FA:=aj (F9.out.on hba);have BA:=aj (B9.out.trans (hba.mono B9.out.size));have RA:=aj (And.intro (hr1.trans ZK.out.2) (hr2.trans ZK.out.1));clear hr1 hr2 hba F9 Q9 V9 B9
      have hand:∀ z:Nat,z=M % 2→bits BinOp.and IntKind.u64 (M:Int) 1=(z:Int):=fun z hz=>by have h:=mW M 1 (by omega) (by decide);rw[nat_mask1,←hz] at h;exact h
      have HAND:=aj hand;clear hand
      rcases dy r2 0 with hr|hr|hr
      ·have HP:Hid (Pk u q M (some M)):=aj (qY NN.out.1 NN.out.2 (fun h=>by have:=RA.out.1.mp hr;omega));go_wp2_with fail
       have hD:M<1000000000000000000:=by omega
       with_reducible refine(oO M (by omega) _ FA.out.tab).mono ?_
       rintro e wf ⟨rfl,hbf⟩;have BF:=aj (BA.out.trans (hbf.mono BA.out.size));have qf:Hid (bl ⟨(Lib.decDigits M).toArray⟩=ddg M∧(⟨(Lib.decDigits M).toArray⟩:ByteArray).data.toList=Lib.decDigits M):=aj ⟨ui _,rfl⟩
       have hts:(⟨(Lib.decDigits M).toArray⟩:ByteArray).size≤19:=by rw[←aL,qf.out.1];exact oP (k:=18) (eI hD (by decide))
       obtain⟨t,ht⟩:∃ t:ByteArray,⟨(Lib.decDigits M).toArray⟩=t:=⟨_,rfl⟩;rw[ht] at qf hts ⊢;clear ht hbf;go_wp2_with fail
       with_reducible refine(Tryz.strings_TrimRight_one t 48 (by decide) _ (by omega)).mono ?_
       rintro e Jt ⟨rfl,rfl⟩;go_wp2_with fail
       go_ret2
       refine⟨_,_,rfl,⟨p,k+1,M,M,by omega,TP.out,hS.out.2.2,by rw[GY.out];exact qO.out,by rw[GY.out];exact HP.out,oq qf.out.2,?_⟩,BF.out⟩;rw[←qf.out.1,aL];omega
      ·subst hr
       have VR:Hid (cN (2*M+1) q=2*(V u*cC q)):=aj (by
        have h1:¬2*(V u*cC q)<cN (2*M+1) q:=fun h=>by have:=RA.out.1.mpr h;omega
        have h2:¬cN (2*M+1) q<2*(V u*cC q):=fun h=>by have:=RA.out.2.mpr h;omega
        omega)
       rcases dK M with hm|hm
       ·have HP:Hid (Pk u q M (some M)):=aj (qY NN.out.1 NN.out.2 (fun h=>by have:=VR.out;omega));have ha:=HAND.out 0 hm.symm;clear hm;go_wp2_with fail
        have hD:M<1000000000000000000:=by omega
        with_reducible refine(oO M (by omega) _ FA.out.tab).mono ?_
        rintro e wf ⟨rfl,hbf⟩;have BF:=aj (BA.out.trans (hbf.mono BA.out.size));have qf:Hid (bl ⟨(Lib.decDigits M).toArray⟩=ddg M∧(⟨(Lib.decDigits M).toArray⟩:ByteArray).data.toList=Lib.decDigits M):=aj ⟨ui _,rfl⟩
        have hts:(⟨(Lib.decDigits M).toArray⟩:ByteArray).size≤19:=by rw[←aL,qf.out.1];exact oP (k:=18) (eI hD (by decide))
        obtain⟨t,ht⟩:∃ t:ByteArray,⟨(Lib.decDigits M).toArray⟩=t:=⟨_,rfl⟩;rw[ht] at qf hts ⊢;clear ht hbf;go_wp2_with fail
        with_reducible refine(Tryz.strings_TrimRight_one t 48 (by decide) _ (by omega)).mono ?_
        rintro e Jt ⟨rfl,rfl⟩;go_wp2_with fail
        go_ret2
        refine⟨_,_,rfl,⟨p,k+1,M,M,by omega,TP.out,hS.out.2.2,by rw[GY.out];exact qO.out,by rw[GY.out];exact HP.out,oq qf.out.2,?_⟩,BF.out⟩;rw[←qf.out.1,aL];omega
       ·have HP:Hid (Pk u q M (some H)):=aj (by rw[←Cs.out];exact qZ NN.out.1 NN.out.2 (.inr ⟨VR.out,hm⟩));have ha:=HAND.out 1 hm.symm;clear hm;go_wp2_with fail
        have hD:H<1000000000000000000:=by omega
        with_reducible refine(oO H (by omega) _ FA.out.tab).mono ?_
        rintro e wf ⟨rfl,hbf⟩;have BF:=aj (BA.out.trans (hbf.mono BA.out.size));have qf:Hid (bl ⟨(Lib.decDigits H).toArray⟩=ddg H∧(⟨(Lib.decDigits H).toArray⟩:ByteArray).data.toList=Lib.decDigits H):=aj ⟨ui _,rfl⟩
        have hts:(⟨(Lib.decDigits H).toArray⟩:ByteArray).size≤19:=by rw[←aL,qf.out.1];exact oP (k:=18) (eI hD (by decide))
        obtain⟨t,ht⟩:∃ t:ByteArray,⟨(Lib.decDigits H).toArray⟩=t:=⟨_,rfl⟩;rw[ht] at qf hts ⊢;clear ht hbf;go_wp2_with fail
        with_reducible refine(Tryz.strings_TrimRight_one t 48 (by decide) _ (by omega)).mono ?_
        rintro e Jt ⟨rfl,rfl⟩;go_wp2_with fail
        go_ret2
        refine⟨_,_,rfl,⟨p,k+1,M,H,by omega,TP.out,hS.out.2.2,by rw[GY.out];exact qO.out,by rw[GY.out];exact HP.out,oq qf.out.2,?_⟩,BF.out⟩;rw[←qf.out.1,aL];omega
      ·have HP:Hid (Pk u q M (some H)):=aj (by rw[←Cs.out];exact qZ NN.out.1 NN.out.2 (.inl (RA.out.2.mp hr)));go_wp2_with fail
       have hD:H<1000000000000000000:=by omega
       with_reducible refine(oO H (by omega) _ FA.out.tab).mono ?_
       rintro e wf ⟨rfl,hbf⟩;have BF:=aj (BA.out.trans (hbf.mono BA.out.size));have qf:Hid (bl ⟨(Lib.decDigits H).toArray⟩=ddg H∧(⟨(Lib.decDigits H).toArray⟩:ByteArray).data.toList=Lib.decDigits H):=aj ⟨ui _,rfl⟩
       have hts:(⟨(Lib.decDigits H).toArray⟩:ByteArray).size≤19:=by rw[←aL,qf.out.1];exact oP (k:=18) (eI hD (by decide))
       obtain⟨t,ht⟩:∃ t:ByteArray,⟨(Lib.decDigits H).toArray⟩=t:=⟨_,rfl⟩;rw[ht] at qf hts ⊢;clear ht hbf;go_wp2_with fail
       with_reducible refine(Tryz.strings_TrimRight_one t 48 (by decide) _ (by omega)).mono ?_
       rintro e Jt ⟨rfl,rfl⟩;go_wp2_with fail
       go_ret2
       refine⟨_,_,rfl,⟨p,k+1,M,H,by omega,TP.out,hS.out.2.2,by rw[GY.out];exact qO.out,by rw[GY.out];exact HP.out,oq qf.out.2,?_⟩,BF.out⟩;rw[←qf.out.1,aL];omega
def jT (l:List Nat) (w:World) (e:Ending) (w':World):Prop:=∃ t:ByteArray,e=.returned (.string t)∧bl t=l∧t.size≤1000∧Below w.heap.size w w'
theorem tJ (n:Nat):idg (n:Int)=ddg n:=by unfold idg;rw[aJ (by omega),Int.natAbs_natCast];rfl
theorem Hq (n:Nat):(Lib.repeatL [48] n).map UInt8.toNat=List.replicate n 48:=by
 induction n with
 | zero=>rfl
 | succ n ih=>rw[Lib.repeatL,aZ,ih,List.replicate_succ];rfl
theorem F4 (n:Nat) (w:World) (hn:n≤500):
  Calls Tryz.prog 161 #[.string ⟨#[48]⟩,.int .i64 n] w (jT (List.replicate n 48) w):=by
 refine(Tryz.strings_Repeat ⟨#[48]⟩ n w (by omega) (by show 1*n≤_;omega)).mono ?_;rintro e w' ⟨rfl,hb⟩
 have h1:bl ⟨(Lib.repeatL (⟨#[48]⟩:ByteArray).data.toList n).toArray⟩=List.replicate n 48:=by rw[ui];exact Hq n
 exact⟨_,rfl,h1,by rw[←aL,h1,dj];omega,hb⟩
theorem GG {n:Nat} (h:n<10):(ddg n).length=1:=by rw[mG h];rfl
theorem xU {n:Nat} (h:¬n<10):2≤(ddg n).length:=by rw[tM h,aM,List.length_singleton];have:=iH (n / 10);omega
theorem Gp {d:List Nat} {p:Int} {M:Nat} (hp:p < -4∨17<p) (hM:max (p-1) (1-p)=M):
  tT d p=(if 1<d.length then d.take 1++[46]++d.drop 1 else d)++[101,if p<1 then 45 else 43]++(if M<10 then [48] else [])++ddg M:=by
 unfold tT;rw[aQ hp,hM];have h10:((M:Int)<10)=(M<10):=propext (by omega);simp only[h10,Int.toNat_natCast]
def sJ (s:ByteArray):ByteArray:=if 1<s.size then s.extract 0 1++⟨#[46]⟩++s.extract 1 s.size else s
theorem vB (s:ByteArray):bl (sJ s)=if 1<(bl s).length then (bl s).take 1++[46]++(bl s).drop 1 else bl s:=by
 unfold sJ;rw[aL]
 by_cases h:1<s.size
 ·rw[aQ h,aQ h,da,da,cI,cI];have e1:(bl s).length=s.size:=aL s;simp only[dE,Nat.sub_zero]
  congr 1
  rw[aE];rw[br,e1];exact aq _
 ·rw[aJ h,aJ h]
theorem Fg (s:ByteArray) (h:s.size≤100):(sJ s).size≤101:=by
 rw[←aL,vB,aL];split
 ·simp only[aM,aR,br,List.length_singleton,aL];omega
 ·rw[aL];omega
theorem jx:bl ⟨#[46]⟩=[46]:=rfl
theorem nu:bl ⟨#[101,45]⟩=[101,45]:=rfl
theorem nt:bl ⟨#[101,43]⟩=[101,43]:=rfl
theorem sW:bl ⟨#[48]⟩=[48]:=rfl
theorem GM:bl ⟨#[48,46]⟩=[48,46]:=rfl
theorem lU:bl ⟨#[45]⟩=[45]:=rfl
theorem oe:bl ⟨#[]⟩=[]:=rfl
theorem mY:(⟨#[101,45]⟩:ByteArray).size=2:=rfl
theorem mX:(⟨#[101,43]⟩:ByteArray).size=2:=rfl
theorem so:(⟨#[48]⟩:ByteArray).size=1:=rfl
theorem oA:(⟨#[46]⟩:ByteArray).size=1:=rfl
theorem FV:(⟨#[48,46]⟩:ByteArray).size=2:=rfl
theorem lG:(⟨#[45]⟩:ByteArray).size=1:=rfl
theorem nV:(⟨#[]⟩:ByteArray).size=0:=rfl
set_option maxRecDepth 100000 in
theorem NV (s:ByteArray) (p:Int) (M:Nat) (w:World) (hf:ad3 w) (h0:0<s.size) (hs:s.size≤100) (hp1:-1000≤p) (hp2:p≤1000) (hp:p < -4∨17<p) (hM:max (p-1) (1-p)=M):
  Calls Tryz.prog 116 #[.string s,.int .i64 p] w (jT (tT (bl s) p) w):=by
 have xA:=Gp (d:=bl s) hp hM;rw[←vB] at xA;have HL:=aj xA;have hM2:M≤1001:=by omega
 have HM:=aj hM;have ci:Hid (∀ W,ad3 W→Calls Tryz.prog 160 #[.int .i64 M] W (Mr M W)):=aj (fun W h=>Pu M W (by omega) (by omega) h);have HF:=aj hf;have hhs:=Fg s hs;clear hf xA hM
 by_cases h1:1<s.size
 ·have HH:Hid (s.extract 0 1++⟨#[46]⟩++s.extract 1 s.size=sJ s):=aj (by unfold sJ;rw[aQ h1])
  rcases hp with hp|hp
  ·by_cases j6:M<10
   ·go_enter Tryz.func116,Tryz.ntmps116
    go_wp2_with fail
    go_quiet (fail)
    go_wp2_with fail
    rw[HM.out,HH.out]
    with_reducible refine(ci.out _ (HF.out.on (cR w _))).mono ?_
    rintro e w1 ⟨e1,rfl,he,hes,hb⟩;have HB:=aj ((cR w _).trans (hb.mono (cR w _).size));rw[tJ] at he;have HE:=aj he;have hl1:e1.size=(ddg M).length:=by rw[←aL,he]
    have hl2:e1.size<2:=by rw[hl1,GG j6];decide
    clear he hb hl1;go_wp2_with fail
    go_ret;refine⟨_,rfl,?_,?_,HB.out⟩
    ·rw[HL.out,aQ (by omega),aQ j6];simp only[da,HE.out,nu,nt,sW,aD,List.nil_append]
    ·simp only[bJ,mY,mX,so];omega
   ·go_enter Tryz.func116,Tryz.ntmps116
    go_wp2_with fail
    go_quiet (fail)
    go_wp2_with fail
    rw[HM.out,HH.out]
    with_reducible refine(ci.out _ (HF.out.on (cR w _))).mono ?_
    rintro e w1 ⟨e1,rfl,he,hes,hb⟩;have HB:=aj ((cR w _).trans (hb.mono (cR w _).size));rw[tJ] at he;have HE:=aj he;have hl1:e1.size=(ddg M).length:=by rw[←aL,he]
    have hl2:¬e1.size<2:=by rw[hl1];have:=xU j6;omega
    clear he hb hl1;go_wp2_with fail
    go_ret;refine⟨_,rfl,?_,?_,HB.out⟩
    ·rw[HL.out,aQ (by omega),aJ j6];simp only[da,HE.out,nu,nt,sW,aD,List.nil_append]
    ·simp only[bJ,mY,mX,so];omega
  ·have j6:¬M<10:=by have:=HM.out;omega
   go_enter Tryz.func116,Tryz.ntmps116
   go_wp2_with fail
   go_quiet (fail)
   go_wp2_with fail
   rw[HM.out,HH.out]
   with_reducible refine(ci.out _ (HF.out.on (cR w _))).mono ?_
   rintro e w1 ⟨e1,rfl,he,hes,hb⟩;have HB:=aj ((cR w _).trans (hb.mono (cR w _).size));rw[tJ] at he;have HE:=aj he;have hl1:e1.size=(ddg M).length:=by rw[←aL,he]
   have hl2:¬e1.size<2:=by rw[hl1];have:=xU j6;omega
   clear he hb hl1;go_wp2_with fail
   go_ret;refine⟨_,rfl,?_,?_,HB.out⟩
   ·rw[HL.out,aJ (by omega),aJ j6];simp only[da,HE.out,nu,nt,sW,aD,List.nil_append]
   ·simp only[bJ,mY,mX,so];omega
 ·have HH:Hid (s=sJ s):=aj (by unfold sJ;rw[aJ h1])
  rcases hp with hp|hp
  ·by_cases j6:M<10
   ·go_enter Tryz.func116,Tryz.ntmps116
    go_wp2_with fail
    rw[HM.out]
    with_reducible refine(ci.out _ HF.out).mono ?_
    rintro e w1 ⟨e1,rfl,he,hes,hb⟩;have HB:=aj (hb);rw[tJ] at he;have HE:=aj he;have hl1:e1.size=(ddg M).length:=by rw[←aL,he]
    have hl2:e1.size<2:=by rw[hl1,GG j6];decide
    clear he hb hl1;go_wp2_with fail
    go_ret;refine⟨_,rfl,?_,?_,HB.out⟩
    ·rw[HL.out,←HH.out,aQ (by omega),aQ j6];simp only[da,HE.out,nu,nt,sW,aD,List.nil_append]
    ·simp only[bJ,mY,mX,so];omega
   ·go_enter Tryz.func116,Tryz.ntmps116
    go_wp2_with fail
    rw[HM.out]
    with_reducible refine(ci.out _ HF.out).mono ?_
    rintro e w1 ⟨e1,rfl,he,hes,hb⟩;have HB:=aj (hb);rw[tJ] at he;have HE:=aj he;have hl1:e1.size=(ddg M).length:=by rw[←aL,he]
    have hl2:¬e1.size<2:=by rw[hl1];have:=xU j6;omega
    clear he hb hl1;go_wp2_with fail
    go_ret;refine⟨_,rfl,?_,?_,HB.out⟩
    ·rw[HL.out,←HH.out,aQ (by omega),aJ j6];simp only[da,HE.out,nu,nt,sW,aD,List.nil_append]
    ·simp only[bJ,mY,mX,so];omega
  ·have j6:¬M<10:=by have:=HM.out;omega
   go_enter Tryz.func116,Tryz.ntmps116
   go_wp2_with fail
   rw[HM.out]
   with_reducible refine(ci.out _ HF.out).mono ?_
   rintro e w1 ⟨e1,rfl,he,hes,hb⟩;have HB:=aj (hb);rw[tJ] at he;have HE:=aj he;have hl1:e1.size=(ddg M).length:=by rw[←aL,he]
   have hl2:¬e1.size<2:=by rw[hl1];have:=xU j6;omega
   clear he hb hl1;go_wp2_with fail
   go_ret;refine⟨_,rfl,?_,?_,HB.out⟩
   ·rw[HL.out,←HH.out,aJ (by omega),aJ j6];simp only[da,HE.out,nu,nt,sW,aD,List.nil_append]
   ·simp only[bJ,mY,mX,so];omega
theorem KS {d:List Nat} {p:Int} (h1:-4≤p) (h2:p≤0):tT d p=[48,46]++List.replicate (-p).toNat 48++d:=by unfold tT;rw[aJ (by omega),aQ h2]
theorem KR {d:List Nat} {p:Int} (h1:0<p) (h2:p≤17) (h3:d.length≤p):tT d p=d++List.replicate (p-d.length).toNat 48:=by unfold tT;rw[aJ (by omega),aJ (by omega),aQ h3]
theorem KQ {d:List Nat} {p:Int} (h1:0<p) (h2:p≤17) (h3:¬d.length≤p):tT d p=d.take p.toNat++[46]++d.drop p.toNat:=by unfold tT;rw[aJ (by omega),aJ (by omega),aJ h3]
set_option maxRecDepth 100000 in
theorem Pr (s:ByteArray) (p:Int) (w:World) (hf:ad3 w) (h0:0<s.size) (hs:s.size≤100) (hp1:-1000≤p) (hp2:p≤1000):
  Calls Tryz.prog 116 #[.string s,.int .i64 p] w (jT (tT (bl s) p) w):=by
 by_cases hp:p < -4∨17<p
 ·exact NV s p (max (p-1) (1-p)).toNat w hf h0 hs hp1 hp2 hp (by omega)
 ·have q1:-4≤p:=by omega
  have q2:p≤17:=by omega
  have q3:¬p < -4:=by omega
  have q4:¬17<p:=by omega
  clear hp hp1 hp2
  by_cases hz:p≤0
  ·obtain⟨n,hn⟩:∃ n:Nat,-p=n:=⟨(-p).toNat,by omega⟩;have HL:=aj (KS (d:=bl s) q1 hz);have HN:=aj hn;have cr:Hid (∀ W,Calls Tryz.prog 161 #[.string ⟨#[48]⟩,.int .i64 n] W (jT (List.replicate n 48) W)):=aj (fun W=>F4 n W (by omega));clear hf;go_enter Tryz.func116,Tryz.ntmps116
   go_wp2_with fail
   with_reducible refine(cr.out _).mono ?_
   rintro e w1 ⟨e1,rfl,he,hes,hb⟩;have HB:=aj hb;have HE:=aj he;clear he hb;go_wp2_with fail
   go_ret;refine⟨_,rfl,?_,?_,HB.out⟩
   ·rw[HL.out,HN.out,Int.toNat_natCast];simp only[da,HE.out,GM]
   ·have:=HE.out;have h1:e1.size=n:=by rw[←aL,this,dj]
    have:=HN.out;simp only[bJ,FV];omega
  ·by_cases hc:(s.size:Int)≤p
   ·obtain⟨n,hn⟩:∃ n:Nat,p-(s.size:Int)=n:=⟨(p-s.size).toNat,by omega⟩;have HL:=aj (KR (d:=bl s) (by omega) q2 (by rw[aL];exact hc));have HN:=aj hn;have cr:Hid (∀ W,Calls Tryz.prog 161 #[.string ⟨#[48]⟩,.int .i64 n] W (jT (List.replicate n 48) W)):=aj (fun W=>F4 n W (by omega));clear hf;go_enter Tryz.func116,Tryz.ntmps116
    go_wp2_with fail
    with_reducible refine(cr.out _).mono ?_
    rintro e w1 ⟨e1,rfl,he,hes,hb⟩;have HB:=aj hb;have HE:=aj he;clear he hb;go_wp2_with fail
    go_ret;refine⟨_,rfl,?_,?_,HB.out⟩
    ·rw[HL.out,aL,HN.out,Int.toNat_natCast];simp only[da,HE.out]
    ·have:=HE.out;have h1:e1.size=n:=by rw[←aL,this,dj]
     have:=HN.out;simp only[bJ];omega
   ·have HL:=aj (KQ (d:=bl s) (by omega) q2 (by rw[aL];exact hc));obtain⟨n,rfl⟩:∃ n:Nat,p=n:=⟨p.toNat,by omega⟩;have hns:n<s.size:=by omega
    clear hf;go_enter Tryz.func116,Tryz.ntmps116
    go_wp2_with fail
    go_quiet (fail)
    go_wp2_with fail
    go_ret;refine⟨_,rfl,?_,?_,cR w _⟩
    ·rw[HL.out,Int.toNat_natCast];simp only[da,cI,jx,dE,Nat.sub_zero];rw[aE (l:=(bl s).drop n)];rw[br,aL];exact aq _
    ·rw[←aL];simp only[da,cI,jx,aM,aR,br,aL,List.length_singleton];omega
end fl
end Go.Proofs.YthpdlidbaojlbaaGreatDoor
