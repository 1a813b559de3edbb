/- The contract of strconv.FormatUint at base ten. -/
import Derived.Test.YthpdlidbaojlbaaGreatDoorQ42
import Derived.Test.YthpdlidbaojlbaaGreatDoorShelf
set_option linter.unusedVariables false
set_option linter.unusedSimpArgs false
set_option maxHeartbeats 4000000
open Go.ChangeShapes Go.WideShapes Go.ChangeAt Go.RowKit
namespace Go.Proofs.YthpdlidbaojlbaaGreatDoor
namespace fl
open Ieee
theorem H6 (u v:Nat) (hu:u<cD) (hv:v<cD):FloatKind.f64.format.order u v=some (compare ((V u:Nat):Int) (V v:Nat)):=by have h:=kA false false u v hu hv;rw[show sgw false+u=u from bD u,show sgw false+v=v from bD v] at h;exact h
theorem NC {u v:Nat} (hv:v<cD) (h:u<v):FloatKind.f64.format.order u v=some .lt:=by rw[H6 u v (by omega) hv,j8];have:=sZ h;omega
theorem Bj {u v:Nat} (hu:u<cD) (h:v≤u):∃ o,FloatKind.f64.format.order u v=some o∧o≠.lt∧(v<u→o=.gt):=by
 refine⟨_,H6 u v hu (by omega),?_,?_⟩
 ·rw[ne_eq,iM];have:=zN h;omega
 ·intro hh;rw[iN];have:=sZ hh;omega
def Mm (u:Nat) (w:World) (e:Ending) (w':World):Prop:=∃ y k,e=.returned (.tuple #[.float .f64 y,.int .i64 k])∧uO u y k∧w=w'
theorem Gk (u:Nat) (w:World) (h1:4503599627370496≤u) (h2:u<cD):
  Calls Tryz.prog 230 #[.float .f64 u] w fun e w'=>e=.returned (.tuple #[.float .f64 u,.int .i64 0])∧w=w':=by
 have ca:=OL false u w (eI h2 (by decide));rw[show sgw false+u=u from bD u] at ca;obtain⟨o,ho,hne,_⟩:=Bj h2 h1;clear h1 h2
 rcases o with _|_|_
 ·exact absurd rfl hne
 all_goals
  clear hne;go_enter Tryz.func230,Tryz.ntmps230
  go_wp2_with fail
  refine ca.mono ?_;rintro e w' ⟨rfl,rfl⟩;go_wp2_with fail
  go_ret2
  exact⟨rfl,rfl⟩
theorem Uf (u:Nat) (w:World) (h0:0<u) (h:u<cD):
  Calls Tryz.prog 230 #[.float .f64 u] w (Mm u w):=by
 by_cases hb:u<4503599627370496
 ·have ca:=OL false u w (eI h (by decide));rw[show sgw false+u=u from bD u] at ca;have ho:=NC (u:=u) (v:=4503599627370496) (by decide) hb;obtain⟨y,hm,hy⟩:=Kp h0 hb;have hq:=fun w=>eJ (P:=Tryz.prog) w .mul 52 .f64 u 4841369599423283200 y hm
  have HY:=aj hy;clear hm hy h0 h hb;go_enter Tryz.func230,Tryz.ntmps230
  go_wp2_with fail
  refine ca.mono ?_;rintro e w' ⟨rfl,rfl⟩;go_wp2_with fail
  go_ret2
  exact⟨_,_,rfl,HY.out,rfl⟩
 ·refine(Gk u w (by omega) h).mono ?_;rintro e w' ⟨rfl,rfl⟩;exact⟨u,0,rfl,Ih (by omega) h,rfl⟩
def ML (u:Nat) (w:World) (e:Ending) (w':World):Prop:=∃ y k,e=.returned (.tuple #[.float .f64 (y % 4503599627370496+4602678819172646912),.int .i64 (frE y k)])∧uO u y k∧w=w'
theorem Se (u:Nat) (w:World) (h0:0<u) (h:u<cD):
  Calls Tryz.prog 211 #[.float .f64 u] w (ML u w):=by
 obtain⟨o,ho,hne,hgt⟩:=Bj (v:=0) h (bz _);obtain rfl:=hgt h0;have ci:=wJ false u 0 false w (bW h) (by decide) (by simp;omega);rw[show sgw false+u=u from bD u] at ci
 have cn:=wI u false w (by
  have:=H6 u u h h
  rw[this];simp)
 have cm:=Uf u w h0 h;have UM:=kC;have hff:=xS;clear hne hgt h0 h;go_enter Tryz.func211,Tryz.ntmps211
 go_wp2_with fail
 refine ci.mono ?_;rintro e w' ⟨rfl,rfl⟩;go_wp2_with fail
 refine cn.mono ?_;rintro e w' ⟨rfl,rfl⟩;go_wp2_with fail
 refine cm.mono ?_;clear cm ci cn ho;rintro e w' ⟨y,k,rfl,hy,rfl⟩;have hy1:=hy.1;have hy2:=hy.2.1;have hi:cD=9218868437227405312:=rfl;have hyb:y<9218868437227405312:=by omega
 have hk1:-52≤k:=by have:=hy.2.2.2;omega
 have hk2:k≤0:=by have:=hy.2.2.2;omega
 have hz1:bits BinOp.and IntKind.u64 ((y:Int) / 4503599627370496) 2047=(y:Int) / 4503599627370496:=G9 (y / 4503599627370496) (by omega);have hz2:=Jp y (by omega)
 have hz3:bits BinOp.or IntKind.u64 ((y:Int) % 4503599627370496) 4602678819172646912=(y:Int) % 4503599627370496+4602678819172646912:=by have h:=Jo 4602678819172646912 (y % 4503599627370496) (by decide) (by decide) (dq _ (by decide));rw[Int.natCast_add,Int.natCast_emod] at h;exact h
 have HY:=aj hy;have HE:Hid (k+((y:Int) / 4503599627370496-1023+1)=frE y k):=aj (by unfold frE;omega);clear hy hi hy1 hy2;go_wp2_with fail
 go_ret2
 exact⟨y,k,by
  rw[←HE.out];refine Nq (LF ?_) rfl
  omega,HY.out,rfl⟩
theorem Sf (u:Nat) (w:World) (h0:0<u) (h:u<cD):
  Calls Tryz.prog 177 #[.float .f64 u] w (ML u w):=by
 have c:=Se u w h0 h;clear h0 h;go_enter Tryz.func177,Tryz.ntmps177
 go_wp2_with fail
 refine c.mono ?_;rintro e w' ⟨y,k,rfl,hy,rfl⟩;have HY:=aj hy;clear hy c;go_wp2_with fail
 go_ret2
 exact⟨y,k,rfl,HY.out,rfl⟩
theorem Ru (m:Nat) (w:World) (h:m<4503599627370496):
  Calls Tryz.prog 213 #[.float .f64 (m+4602678819172646912),.int .i64 53] w fun e w'=>e=.returned (.float .f64 (m+4841369599423283200))∧w=w':=by
 have hi:cD=9218868437227405312:=rfl;obtain⟨u,hu⟩:∃ u,m+4602678819172646912=u:=⟨_,rfl⟩;have h1:4503599627370496≤u:=by omega
 have h2:u<cD:=by omega
 obtain⟨o,ho,hne,hgt⟩:=Bj (v:=0) h2 (bz _);obtain rfl:=hgt (by omega);have ci:=wJ false u 0 false w (bW h2) (by decide) (by simp;omega);rw[show sgw false+u=u from bD u] at ci
 have cn:=wI u false w (by
  have:=H6 u u h2 h2
  rw[this];simp)
 have cm:=Gk u w h1 h2;have UM:=kC;have hff:=xS
 have hz1:bits BinOp.and IntKind.i64 ((u:Int) / 4503599627370496) 2047=1022:=by
  have e:u / 4503599627370496=1022:=by omega
  have:=IB (u / 4503599627370496) (by omega);rw[e] at this;rw[show(u:Int) / 4503599627370496=((u / 4503599627370496:Nat):Int) from rfl,e];exact this
 have hz2:=Jp u (by omega);rw[show u % 4503599627370496=m by omega] at hz2;have hz3:bits BinOp.or IntKind.u64 (m:Int) 4841369599423283200=((m+4841369599423283200:Nat):Int):=Jo 4841369599423283200 m (by decide) (by decide) h;obtain⟨Z,hZ⟩:∃ Z,m+4841369599423283200=Z:=⟨_,rfl⟩;have hq:=fun w=>eJ (P:=Tryz.prog) w .mul 52 .f64 4607182418800017408 Z _ (Im (z:=Z) (by omega) (by omega))
 rw[hZ] at hz3 ⊢;clear hZ;have hub:u<9218868437227405312:=by omega
 rw[hu];clear hne hgt h1 h2 hi hu;go_enter Tryz.func213,Tryz.ntmps213
 go_wp2_with fail
 refine ci.mono ?_;rintro e w' ⟨rfl,rfl⟩;go_wp2_with fail
 refine cn.mono ?_;rintro e w' ⟨rfl,rfl⟩;go_wp2_with fail
 refine cm.mono ?_;clear cm ci cn ho;rintro e w' ⟨rfl,rfl⟩;go_wp2_with fail
 go_ret;exact⟨rfl,rfl⟩
theorem Rv (m:Nat) (w:World) (h:m<4503599627370496):
  Calls Tryz.prog 179 #[.float .f64 (m+4602678819172646912),.int .i64 53] w fun e w'=>e=.returned (.float .f64 (m+4841369599423283200))∧w=w':=by
 have c:=Ru m w h;obtain⟨u,hu⟩:∃ u,m+4602678819172646912=u:=⟨_,rfl⟩;rw[hu] at c ⊢;clear hu h;go_enter Tryz.func179,Tryz.ntmps179
 go_wp2_with fail
 refine c.mono ?_;rintro e w' ⟨rfl,rfl⟩;go_wp2_with fail
 go_ret;exact⟨rfl,rfl⟩
theorem Bv (n:String) (way:Toward) (x:Nat) (s:Bool) (m:Nat) (i:Int) (h:FloatKind.f64.decode x=.number s m i):
  Go.Extern.MathFloor.toIntegral n way #[.float .f64 x]=pure (.float .f64 (FloatKind.f64.encode ((Datum.number s m i).integral way))):=by
 obtain⟨X,e⟩:∃ X:Bool→Nat→Sem Value,Go.Extern.MathFloor.toIntegral n way #[.float .f64 x]=(match FloatKind.f64.decode x with
  | .nan s t=>X s t
  | d=>pure (.float .f64 (FloatKind.f64.encode (d.integral way)))):=⟨_,rfl⟩
 rw[e,h]
theorem archFloor (x:Nat) (s:Bool) (m:Nat) (i:Int) (h:FloatKind.f64.decode x=.number s m i) (w:World):
  (callFunc 214 #[.float .f64 x]).run Tryz.prog w=.ok (.value (.float .f64 (FloatKind.f64.encode ((Datum.number s m i).integral .down)))) w:=by
 have e:(callFunc 214 #[.float .f64 x]).run Tryz.prog w=((Go.Extern.MathFloor.toIntegral "math.archFloor" .down #[.float .f64 x]) >>= fun v=>pure (.value v)).run Tryz.prog w:=by kernel_rfl
 rw[e,Bv _ _ x s m i h];rfl
set_option maxRecDepth 100000 in
theorem Sj (x y:Nat) (w:World) (h:(callFunc 214 #[.float .f64 x]).run Tryz.prog w=.ok (.value (.float .f64 y)) w):
  Calls Tryz.prog 181 #[.float .f64 x] w fun e w'=>e=.returned (.float .f64 y)∧w=w':=by
 go_enter Tryz.func181,Tryz.ntmps181
 go_wp2_with fail
 go_ret;exact⟨rfl,rfl⟩
def SR (u:Nat) (w:World) (e:Ending) (w':World):Prop:=∃ x y a b,e=.returned (.tuple #[x,y])∧Num .u32 w' x a∧Num .u32 w' y b∧vY u a b∧a<Bs ^ KA∧b<Bs ^ KA∧Below w.heap.size w w'
theorem Pt {n k:Nat} (hn:n<18446744073709551616) (hk:k≤10000):n*2 ^ k<Bs ^ KA:=yh (ub hn) hk
set_option maxRecDepth 100000 in
theorem Q5 (u:Nat) (w:World) (h0:0<u) (hu:u<cD):
  Calls Tryz.prog 151 #[.float .f64 u] w (SR u w):=by
 have cf:=Sf u w h0 hu;go_enter Tryz.func151,Tryz.ntmps151
 go_wp2_with fail
 refine cf.mono ?_;clear cf;rintro e w1 ⟨y,k,rfl,hy,rfl⟩;have hk:=Sg hy;have HY:=aj hy;obtain⟨E,hE⟩:∃ E,frE y k=E:=⟨_,rfl⟩;rw[hE] at hk ⊢;have HE:=aj hE;obtain⟨m,hm⟩:∃ m,y % 4503599627370496=m:=⟨_,rfl⟩;have hmb:m<4503599627370496:=by rw[←hm];exact dq _ (by decide)
 rw[hm];have HM:=aj hm;have cl:=fun w=>Rv m w hmb
 obtain⟨f1,hf1⟩:∃ f,m+4602678819172646912=f:=⟨_,rfl⟩;obtain⟨f2,hf2⟩:∃ f,m+4841369599423283200=f:=⟨_,rfl⟩;obtain⟨M,YC⟩:∃ M,m+4503599627370496=M:=⟨_,rfl⟩;have hcv:=fun W=>run_convert_float_int (P:=Tryz.prog) W 52 47 .f64 .u64 f2 _ (by kernel_rfl) Tryz.underlying47 (Hc m f2 M hmb hf2 YC)
 rw[hf1,hf2] at cl;rw[hf1];have Od:M<18446744073709551616:=by omega
 have VI:=aj YC;clear hf1 hf2 hm hE hy YC;have hk1:=hk.1;have hk2:=hk.2.1;clear hk;go_wp2_with fail
 refine(cl _).mono ?_;clear cl;rintro e w2 ⟨rfl,rfl⟩;go_wp2_with fail
 clear hcv;refine(Js M _ Od).mono ?_;rintro e w3 ⟨x1,rfl,hx1,hb1⟩;have X1:=aj hx1;have B1:=aj hb1;clear hx1 hb1;go_wp2_with fail
 refine(Js 1 _ (by decide)).mono ?_;rintro e w4 ⟨x2,rfl,hx2,hb2⟩;have X2:=aj hx2;have X1':=aj (X1.out.on hb2);have B2:=aj (B1.out.trans (hb2.mono B1.out.size));clear hx2 hb2 X1;have AM:Hid (0<M):=aj (by have:=VI.out;omega)
 by_cases hc:53≤E
 ·obtain⟨j,hj⟩:∃ j:Nat,E=53+(j:Int):=⟨(E-53).toNat,by omega⟩;have hjb:j≤1000:=by omega
  have hfr:Hid (M*2 ^ j*2 ^ K74=V u*1):=aj (by rw[←VI.out,←HM.out];exact Lz HY.out (by rw[HE.out];exact hj));have hej:E-53=(j:Int):=by omega
  clear hj;go_wp2_with fail
  with_reducible refine(Pq x1 M j _ X1'.out (aP (ub Od) kba) AM.out (by omega)).mono ?_
  rintro e w5 ⟨x3,rfl,hx3,hb3⟩;have X3:=aj hx3;have X2':=aj (X2.out.on hb3);have B3:=aj (B2.out.trans (hb3.mono B2.out.size));clear hx3 hb3;go_wp2_with fail
  go_ret2
  exact⟨_,_,_,_,rfl,X3.out,X2'.out,⟨df AM.out (bf (by decide)),by decide,hfr.out⟩,Pt Od (by omega),aP (ub (by decide)) kba,B3.out⟩
 ·obtain⟨j,hj⟩:∃ j:Nat,E+(j:Int)=53:=⟨(53-E).toNat,by omega⟩;have hjb:j≤2000:=by omega
  have hfr:Hid (M*2 ^ K74=V u*(1*2 ^ j)):=aj (by rw[←VI.out,←HM.out];exact Fi HY.out (by rw[HE.out];exact hj));have hej:(53:Int)-E=(j:Int):=by omega
  have hc':E<53:=by omega
  clear hj hc;go_wp2_with fail
  with_reducible refine(Pq x2 1 j _ X2.out (aP (ub (by decide)) kba) (by decide) (by omega)).mono ?_
  rintro e w5 ⟨x3,rfl,hx3,hb3⟩;have X3:=aj hx3;have Y7:=aj (X1'.out.on hb3);have B3:=aj (B2.out.trans (hb3.mono B2.out.size));clear hx3 hb3;go_wp2_with fail
  go_ret2
  exact⟨_,_,_,_,rfl,Y7.out,X3.out,⟨AM.out,df (by decide) (bf (by decide)),hfr.out⟩,aP (ub Od) kba,Pt (by decide) (by omega),B3.out⟩
def Tl (u a b:Nat) (w:World) (e:Ending) (w':World):Prop:=∃ p:Int,e=.returned (.int .i64 p)∧-400≤p∧p≤400∧bel a b p∧Top u p∧Below w.heap.size w w'
set_option maxRecDepth 100000 in
theorem SM (x y:Value) (u a b:Nat) (w:World) (hx:Num .u32 w x a) (hy:Num .u32 w y b) (hf:vY u a b) (h0:0<u) (hu:u<cD) (ha:a<Bs ^ KA) (hb:b<Bs ^ KA):
  Calls Tryz.prog 152 #[x,y] w (Tl u a b w):=by
 have HX:=aj hx;have HY:=aj hy;have HF:=aj hf;have H0:=aj h0;have HU:=aj hu;have HA:=aj ha;have HB:=aj hb;clear hx hy hf h0 hu ha hb;have cb:Hid (∀ W p,Num .u32 W x a→Num .u32 W y b→-900≤p→p≤900→Calls Tryz.prog 183 #[x,y,.int .i64 p] W (AP a b p W)):=aj (fun W p h1 h2 h3 h4=>SF x y a b p W h1 h2 HA.out HB.out h3 h4);go_enter Tryz.func152,Tryz.ntmps152
 go_wp2_with fail
 refine(PH x a _ HX.out (aP HA.out E8) HF.out.pa).mono ?_;rintro e w1 ⟨s,rfl,hs1,hs2,hb1⟩;have Jh:=aj (HX.out.on hb1);have xt:=aj (HY.out.on hb1);have B1:=aj hb1;have S1:=aj hs1;have S2:=aj hs2;clear hb1 hs1 hs2;go_wp2_with fail
 refine(PH y b _ xt.out (aP HB.out E8) HF.out.pb).mono ?_;rintro e w2 ⟨t,rfl,ht1,ht2,hb2⟩;have OY:=aj (Jh.out.on hb2);have Tx:=aj (xt.out.on hb2);have B2:=aj (B1.out.trans (hb2.mono B1.out.size));obtain⟨d1,d2⟩:=HF.out.bits H0.out HU.out S1.out S2.out ht1 ht2;clear hb2 ht1 ht2;obtain⟨d,hd⟩:∃ d,(s:Int)-t=d:=⟨_,rfl⟩;rw[hd] at d1 d2;obtain⟨z,sg,m,i,g,hm1,hm2,X7,g1,g2⟩:=IJ d d1 d2;have hq:=fun w=>eJ (P:=Tryz.prog) w .mul 52 .f64 (floatOfInt .f64 d) 4599094494223104511 z hm1
 have cf:=fun w=>Sj z _ w (archFloor z sg m i hm2 w)
 have hcv:=fun W=>run_convert_float_int (P:=Tryz.prog) W 52 3 .f64 .i64 _ g (by kernel_rfl) Tryz.underlying3 X7
 obtain⟨z2,hz2⟩:∃ z2,FloatKind.f64.encode ((Ieee.Datum.number sg m i).integral .down)=z2:=⟨_,rfl⟩;rw[hz2] at cf hcv;clear hm1 hm2 X7 hz2;go_wp2_with fail
 with_reducible refine(cf _).mono ?_
 clear cf hq;rintro e w3 ⟨rfl,rfl⟩;go_wp2_with fail
 go_loopw [5] (fun v wr=>∃ (p:Int),v=.int .i64 p∧-500≤p∧p≤500∧Hid (Num .u32 wr x a)∧Hid (Num .u32 wr y b)∧Hid (Below w.heap.size w wr)) (fun v _=>(1025-intOf v).toNat)
 case atStart=>exact⟨g,rfl,g1,g2,OY,Tx,B2⟩
 case round=>
  clear OY Tx B2 hcv g1 g2 hd;obtain⟨p,rfl,hp1,hp2,hX,hY,hB⟩:=hrel;go_wp2_with fail
  with_reducible refine(cb.out _ _ hX.out hY.out (by omega) (by omega)).mono ?_
  rintro e w3 ⟨r,rfl,hr,hb3⟩;have OX:=aj (hX.out.on hb3);have Mu:=aj (hY.out.on hb3);have B3:=aj (hB.out.trans (hb3.mono hB.out.size));have RB:Hid (r=true↔bel a b p):=aj hr;clear hr hb3 hX hY hB
  cases r with
  | false=>
   have hp3:p<400:=by
    by_cases hh:p<400
    ·exact hh
    ·have:=RB.out.mpr (Mb HF.out HU.out (by omega));cases this
   clear RB;go_wp2_with fail
   go_roundw
   case rel=>exact⟨p+1,by go_num,by omega,by omega,OX,Mu,B3⟩
   case measure=>simp[intOf];omega
  | true=>
   have VV:Hid (bel a b p):=aj (RB.out.mp rfl);clear RB;go_wp2_with fail
   go_loopw [5] (fun v wr=>∃ (p:Int),v=.int .i64 p∧-500≤p∧p≤500∧Hid (bel a b p)∧Hid (Num .u32 wr x a)∧Hid (Num .u32 wr y b)∧Hid (Below w.heap.size w wr)) (fun v _=>(1025+intOf v).toNat)
   case atStart=>exact⟨p,rfl,hp1,hp2,VV,OX,Mu,B3⟩
   case round=>
    clear VV OX Mu B3 hp1 hp2;obtain⟨p,rfl,hp1,hp2,hBel,hX,hY,hB⟩:=hrel;go_wp2_with fail
    with_reducible refine(cb.out _ _ hX.out hY.out (by omega) (by omega)).mono ?_
    rintro e w3 ⟨r,rfl,hr,hb3⟩;have OX:=aj (hX.out.on hb3);have Mu:=aj (hY.out.on hb3);have B3:=aj (hB.out.trans (hb3.mono hB.out.size));have RB:Hid (r=true↔bel a b (p-1)):=aj hr;clear hr hb3 hX hY hB
    cases r with
    | false=>
     have sh:Hid (¬bel a b (p-1)):=aj (fun h=>by have:=RB.out.mpr h;cases this);clear RB;go_wp2_with fail
     go_ret
     have q1:-400≤p:=by
      by_cases hh:-400≤p
      ·exact hh
      ·exact absurd hBel.out (Ma HF.out H0.out (by omega))
     have q2:p≤400:=by
      by_cases hh:p≤400
      ·exact hh
      ·exact absurd (Mb HF.out HU.out (by omega)) sh.out
     exact⟨p,rfl,q1,q2,hBel.out,Qa HF.out hBel.out sh.out,B3.out⟩
    | true=>
     have HB2:Hid (bel a b (p-1)):=aj (RB.out.mp rfl)
     have q1:-400<p-1:=by
      by_cases hh:-400<p-1
      ·exact hh
      ·exact absurd HB2.out (Ma HF.out H0.out (by omega))
     clear RB;go_wp2_with fail
     go_roundw
     case rel=>exact⟨p-1,by go_num,by omega,by omega,HB2,OX,Mu,B3⟩
     case measure=>simp[intOf];omega
open Go.Sort Go.Lib
theorem holds_zero0 (w:World) (T:TypeId) (nd:Nat) (hs:nd≤24):Holds (fun(b:UInt8)=>Value.int .u8 (b.toNat:Int)) (w.alloc (.cells Lib.zeros24 T)) w.heap.size 0 (Array.replicate nd (0:UInt8)):=fun j hj=>by
 have hj':j<nd:=by simpa using hj
 refine⟨?_,World.frozen?_alloc_new _ _ _ _⟩;rw[World.cell?_alloc_new,bD,Lib.zeros24_at _ (by omega),gS _ j hj];simp
theorem LG (w:World) (o:Obj) (dk:Array UInt8) (k:Nat):∃ os,(putRow (fun(b:UInt8)=>Value.int .u8 (b.toNat:Int)) (w.alloc o) w.heap.size 0 dk).drewN k=grow (w.drewN k) os:=by rw[alloc_eq_grow];obtain⟨os',_,e⟩:=putRow_grow_new (fun(b:UInt8)=>Value.int .u8 (b.toNat:Int)) w #[o] w.heap.size 0 dk (aq _);exact⟨os',by rw[e];rfl⟩
def MK (u:Nat) (w:World) (e:Ending) (w':World):Prop:=e=.returned (.string ⟨(Lib.decDigits u).toArray⟩)∧Below w.heap.size w w'
set_option maxRecDepth 100000 in
theorem LA (u:Nat) (hu:u<18446744073709551616) (w:World) (htab:Lib.TabIs Tryz.prog w "internal/strconv.uint64pow10" .u64 Lib.pow10Tab):
  Calls Tryz.prog 188 #[.int .u64 u,.int .i64 10] w (MK u w):=by
 by_cases hs:u<100
 ·go_enter Tryz.func188,Tryz.ntmps188
  go_wp2_with fail
  refine(Tryz.internal_strconv_small u hs _).mono ?_;rintro e w' ⟨rfl,rfl⟩;go_wp2_with fail
  go_ret;exact⟨rfl,Below.refl _ _⟩
 ·have hu1:1≤u:=by omega
  have hnd20:Lib.nDigits u≤20:=by have:=Lib.numDigits_eq u hu1 hu;split at this<;>omega
  have hal:Tryz.prog.arrayLen 261=24:=by kernel_rfl
  have hsl1:∀ W,(Instr.sliceAt 261 (.pointer (some ⟨w.heap.size,0,none⟩)) none (some (.int .i64 (Lib.nDigits u:Int))) none).run Tryz.prog W=.ok (.slice (some ⟨w.heap.size,0,none⟩) (Lib.nDigits u) 24) W:=fun W=>by rw[run_sliceAt_array_h W 261 ⟨w.heap.size,0,none⟩ (by kernel_rfl) .i64 (Lib.nDigits u:Int) (by omega) (by rw[hal];omega)];go_simp
  have hH0:=holds_zero0 w 261 (Lib.nDigits u) (by omega);have hfmt:=Tryz.internal_strconv_formatBase10 w.heap.size 0 24 u (Array.replicate (Lib.nDigits u) 0) (w.alloc (.cells Lib.zeros24 261)) hH0 (by rw[ku];exact Lib.lt_pow_nDigits u) hu (by rw[ku];omega);rw[ku] at hfmt;have HH0:=aj hH0;have HT:=aj (Lib.tabIs_alloc htab (.cells Lib.zeros24 261));have hs':¬u<100:=hs;clear hH0 hal htab;go_enter Tryz.func188,Tryz.ntmps188
  go_wp2_with fail
  refine(Tryz.internal_strconv_numDigits u hu1 hu _ HT.out).mono ?_;rintro e w' ⟨rfl,rfl⟩;go_wp2_with fail
  refine hfmt.mono ?_;clear hfmt;rintro e w' ⟨rfl,k,v',dk,rfl,hF⟩
  have hcv:(convert 147 9 (.slice (some ⟨w.heap.size,0,none⟩) (Lib.nDigits u) 24)).run Tryz.prog ((putRow (fun(b:UInt8)=>Value.int .u8 (b.toNat:Int)) (w.alloc (.cells Lib.zeros24 261)) w.heap.size 0 dk).drewN k)=.ok (.string ⟨(Lib.decDigits u).toArray⟩) ((putRow (fun(b:UInt8)=>Value.int .u8 (b.toNat:Int)) (w.alloc (.cells Lib.zeros24 261)) w.heap.size 0 dk).drewN k):=by
   have h:=js (P:=Tryz.prog) ((putRow (fun(b:UInt8)=>Value.int .u8 (b.toNat:Int)) (w.alloc (.cells Lib.zeros24 261)) w.heap.size 0 dk).drewN k) 147 9 5 ⟨w.heap.size,0,none⟩ 24 (Lib.decDigits u) Tryz.underlying147 Tryz.underlying5 Tryz.underlying9 (fun j hj=>by
    rw[Lib.row_is_numeral hF j hj,Lib.add_plain,World.cell?_drewN]
    exact cell?_putRow (fun(b:UInt8)=>Value.int .u8 (b.toNat:Int)) _ w.heap.size 0 _ dk HH0.out (by rw[hF.size,ku]) j (by rw[hF.size];rw[ko] at hj;exact hj))
   rw[ko] at h;exact h
  have HF:Hid (Below w.heap.size w ((putRow (fun(b:UInt8)=>Value.int .u8 (b.toNat:Int)) (w.alloc (.cells Lib.zeros24 261)) w.heap.size 0 dk).drewN k)):=aj (by
   obtain⟨os,eo⟩:=LG w (.cells Lib.zeros24 261) dk k;rw[eo]
   exact tg _ _ (aq _) _ _)
  clear hF HH0 HT;go_wp2_with fail
  go_ret;exact⟨rfl,HF.out⟩
theorem oO (u:Nat) (hu:u<18446744073709551616) (w:World) (htab:Lib.TabIs Tryz.prog w "internal/strconv.uint64pow10" .u64 Lib.pow10Tab):
  Calls Tryz.prog 158 #[.int .u64 u,.int .i64 10] w (MK u w):=by
 have c:=LA u hu w htab;go_enter Tryz.func158,Tryz.ntmps158
 go_wp2_with fail
 refine c.mono ?_;clear c htab;rintro e w' ⟨rfl,hb⟩;have HB:=aj hb;clear hb;go_wp2_with fail
 go_ret;exact⟨rfl,HB.out⟩
end fl
end Go.Proofs.YthpdlidbaojlbaaGreatDoor
