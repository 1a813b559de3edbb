/- value.wrong: 0 just of plain data that make a value (small o -/
import Derived.Test.YthpdlidbaojlbaaGreatDoorQ27
set_option linter.unusedVariables false
set_option linter.unusedSimpArgs false
set_option maxHeartbeats 4000000
open Go.ChangeShapes Go.WideShapes Go.RowKit
namespace Go.Proofs.YthpdlidbaojlbaaGreatDoor
namespace jw
open ks (af ae hlt ah bC alloc_old aG aX aT dp)
attribute [local go_sem] gR
theorem kQ.snoc {bt bm fb:Nat} {nm:List ByteArray} {s:ByteArray} {w:World} (h:kQ bt bm fb (¬nm.Nodup∨s∈nm) (nm++[s]) w):kQ bt bm fb (¬(nm++[s]).Nodup) (nm++[s]) w:=by refine h.of ?_;rw[uC];exact⟨fun h ⟨a,b⟩=>h.elim (fun h=>h a) b,fun h=>gq fun hn=>h ⟨gq fun k=>hn (.inl k),fun k=>hn (.inr k)⟩⟩
def nmI (p:cG) (k:Nat):List ByteArray:=if p.kind=4 then p.items.take k else []
theorem uk.aN {bt bm fb:Nat} {tw:Bool} {F:List ByteArray} {w w':World} (h:uk bt bm fb tw F w) (hk:af [] w w'):uk bt bm fb tw F w':=⟨hk.get h.t (by simp),hk.get h.m (by simp),hk.get h.f (by simp)⟩
theorem kQ.aN {bt bm fb:Nat} {Q:Prop} {nm:List ByteArray} {w w':World} (h:kQ bt bm fb Q nm w) (hk:af [] w w'):kQ bt bm fb Q nm w':=by obtain⟨tw,F,a,b,c⟩:=h.ex;exact⟨tw,F,a.aN hk,b,c⟩
theorem uk.put {bt bm fb:Nat} {tw:Bool} {F:List ByteArray} {w:World} (h:uk bt bm fb tw F w) (t2:Bool):uk bt bm fb t2 F (w.setCell ⟨bt,0,none⟩ (.bool t2)):=by
 have hne1:bm≠bt:=fun e=>by have h1:=h.t;rw[←e,h.m] at h1;simp at h1
 have hne2:fb≠bt:=fun e=>by have h1:=h.f;rw[e,h.t] at h1;unfold gT at h1;simp at h1
 exact⟨by rw[aX h.t 0 _];rfl,(aT _ hne1).trans h.m,(aT _ hne2).trans h.f⟩
def nmP (p:cG) (k:Nat):List ByteArray:=nmI p p.items.length++(p.bL.take k).map (fun x=>x.1)
def nmR (p:cG) (k:Nat):List ByteArray:=nmP p p.bL.length++(p.bI.take k).map (fun x=>x.1)
def QR (p:cG) (k:Nat):Prop:=¬(nmR p k).Nodup∨∃ x∈p.bI.take k,fl.cD<x.2 % 9223372036854775808
theorem NK (p:cG):nmR p p.bI.length=kL p:=by unfold nmR nmP nmI kL;simp only[fA]
theorem Kr {p:cG} {k:Nat} {x:ByteArray×ByteArray} (h:p.bL[k]?=some x):nmP p (k+1)=nmP p k++[x.1]:=by unfold nmP;rw[c8,h,aD];simp
theorem C6 {p:cG} {k:Nat} {x:ByteArray×Nat} (h:p.bI[k]?=some x):nmR p (k+1)=nmR p k++[x.1]:=by unfold nmR;rw[c8,h,aD];simp
theorem OM {p:cG} {k:Nat} {x:ByteArray×Nat} (h:p.bI[k]?=some x):((QR p k∨x.1∈nmR p k)∨fl.cD<x.2 % 9223372036854775808)↔QR p (k+1):=by
 unfold QR;rw[C6 h,uC,c8,h];constructor
 ·rintro(((h1|⟨y,hy,h1⟩)|h1)|h1)
  ·exact .inl (fun h2=>h1 h2.1)
  ·exact .inr ⟨y,by simp[hy],h1⟩
  ·exact .inl (fun h2=>h2.2 h1)
  ·exact .inr ⟨x,by simp,h1⟩
 ·rintro(h1|⟨y,hy,h1⟩)
  ·by_cases h2:(nmR p k).Nodup
   ·by_cases h3:x.1∈nmR p k
    ·exact .inl (.inr h3)
    ·exact absurd ⟨h2,h3⟩ h1
   ·exact .inl (.inl (.inl h2))
  ·rcases bj.1 hy with hy|hy
   ·exact .inl (.inl (.inr ⟨y,hy,h1⟩))
   ·simp at hy;subst hy;exact .inr h1
theorem Kt (x:Nat) (hx:x<18446744073709551616):(FloatKind.f64.format.order x x != some .eq)=decide (fl.cD<x % 9223372036854775808):=by
 obtain⟨s,hs⟩:∃ s,x=fl.sgw s+x % 9223372036854775808:=by
  by_cases h:x<9223372036854775808
  ·exact⟨false,by simp[fl.sgw];omega⟩
  ·exact⟨true,by simp[fl.sgw];omega⟩
 obtain⟨u,hu⟩:∃ u,u=x % 9223372036854775808:=⟨_,rfl⟩;rw[←hu] at hs ⊢;have hul:u<9223372036854775808:=by omega
 show(Ieee.double.order x x != some .eq)=_
 by_cases h:u≤fl.cD
 ·rw[hs,fl.C3 s u h];exact(eK (by omega)).symm
 ·rw[hs,fl.Gi s u _ (by omega) hul];exact(fY (by omega)).symm
theorem T9 {p:cG} (h:jz p) (hk:ti p):OkP p↔¬QR p p.bI.length:=by
 rw[h.Kn];unfold QR;rw[NK,fA];constructor
 ·rintro⟨_,a,b⟩ (h1|⟨x,hx,h1⟩)
  ·exact h1 a
  ·have:=b x hx;omega
 ·intro h1;refine⟨hk,gq fun h2=>h1 (.inl h2),fun x hx=>?_⟩;exact dS fun h2=>h1 (.inr ⟨x,hx,h2⟩)
theorem Jq (p:cG) (iv pv rv:Value) (w:World) (h:p.kind<1∨5<p.kind):
  Calls Tryz.prog 50 #[.agg #[.int .i64 p.kind,.string p.text,iv,pv,rv]] w fun r w'=>(∃ e:Int,r=.returned (.int .i64 e)∧(e=0↔OkP p))∧af [] w w':=by
 have hno:¬OkP p:=fun k=>by have:=k.kind.hk;omega
 have rY:=ae hno;obtain⟨kd,hkd⟩:∃ kd,p.kind=kd:=⟨_,rfl⟩;rw[hkd] at h ⊢;clear hno hkd
 rcases h with h|h
 ·go_enter Tryz.func50,Tryz.ntmps50
  go_wp2_with fail
  go_ret;exact⟨⟨_,rfl,fun h=>absurd h (by decide),fun h=>absurd h rY.out⟩,(af.refl _ w).alloc _⟩
 ·have h1:¬kd<1:=by omega
  go_enter Tryz.func50,Tryz.ntmps50
  go_wp2_with fail
  go_ret;exact⟨⟨_,rfl,fun h=>absurd h (by decide),fun h=>absurd h rY.out⟩,(af.refl _ w).alloc _⟩
set_option maxRecDepth 100000 in
theorem P1 (p:cG) (iv pv rv:Value) (w:World) (hsm:jz p) (IH:1≤p.kind∧p.kind≤5) (hfl:∀ x∈p.bI,x.2<18446744073709551616) (hi:eh b9 1 w iv p.items) (hp:eh gJ 2 w pv p.bL) (hr:eh dN 2 w rv p.bI):
  Calls Tryz.prog 50 #[.agg #[.int .i64 p.kind,.string p.text,iv,pv,rv]] w fun r w'=>(∃ e:Int,r=.returned (.int .i64 e)∧(e=0↔OkP p))∧af [] w w':=by
 obtain⟨ia,nY,hiv,_,_,_,hia⟩:=hi;obtain⟨pa,pj,hpv,_,_,_,hpa⟩:=hp;obtain⟨ra,qU,Lh,_,_,_,hra⟩:=hr;subst hiv hpv Lh;have HO:=ae hsm;have qO:=ae hfl;obtain⟨kd,hkd⟩:∃ kd,p.kind=kd:=⟨_,rfl⟩;obtain⟨tx,htx⟩:∃ tx,p.text=tx:=⟨_,rfl⟩;obtain⟨ni,hni⟩:∃ ni,p.items.length=ni:=⟨_,rfl⟩;obtain⟨np,hnp⟩:∃ np,p.bL.length=np:=⟨_,rfl⟩;obtain⟨nr,hnr⟩:∃ nr,p.bI.length=nr:=⟨_,rfl⟩;rw[hkd,htx,hni,hnp,hnr];obtain⟨W,hW⟩:∃ W,W=w.alloc (.cells #[.int .i64 kd,.string tx,.slice ia ni nY,.slice pa np pj,.slice ra nr qU] 36):=⟨_,rfl⟩;have hb:W.heap[w.heap.size]?=some (.cells #[.int .i64 kd,.string tx,.slice ia ni nY,.slice pa np pj,.slice ra nr qU] 36 (0,0)):=by rw[hW];exact aG w _
 have hz:W.heap.size=w.heap.size+1:=by rw[hW];simp
 have pq:af [] w W:=by rw[hW];exact(af.refl _ w).alloc _
 have c0:W.cell? ⟨w.heap.size,0,none⟩=some (.int .i64 kd):=by rw[ah hb];rfl
 have c1:W.cell? ⟨w.heap.size,1,none⟩=some (.string tx):=by rw[ah hb];rfl
 have c2:W.cell? ⟨w.heap.size,2,none⟩=some (.slice ia ni nY):=by rw[ah hb];rfl
 have c3:W.cell? ⟨w.heap.size,3,none⟩=some (.slice pa np pj):=by rw[ah hb];rfl
 have c4:W.cell? ⟨w.heap.size,4,none⟩=some (.slice ra nr qU):=by rw[ah hb];rfl
 have wT:=ae (show ∀ X j u,af [] W X→W.cell? ⟨w.heap.size,j,none⟩=some u→X.cell? ⟨w.heap.size,j,none⟩=some u from fun X j u hk hc=>ak hk hc);have c2x:=ae c2;have c3x:=ae c3;have c4x:=ae c4;have hk1:¬(kd<1):=by omega
 have hk5:¬(5<kd):=by omega
 obtain⟨d1,b1⟩:∃ b:Bool,b=true↔(kd∈[(1:Int)]∨tx.size=0):=⟨decide _,cz⟩;obtain⟨d2,b2⟩:∃ b:Bool,b=true↔(kd∈[(2:Int),4]∨ni=0):=⟨decide _,cz⟩;obtain⟨d3,b3⟩:∃ b:Bool,b=true↔(kd∈[(3:Int)]∨np=0):=⟨decide _,cz⟩;obtain⟨d4,b4⟩:∃ b:Bool,b=true↔(kd∈[(5:Int)]∨nr=0):=⟨decide _,cz⟩;have B1:=ae b1;have B2:=ae b2;have B3:=ae b3;have B4:=ae b4
 have Ed:=ae (show d1=false→¬OkP p from fun h k=>by
  have:=k.kind.ht;rw[hkd,htx] at this
  rw[b1.2 (by simpa using this)] at h;cases h)
 have O6:=ae (show d2=false→¬OkP p from fun h k=>by
  have:=k.kind.hi;rw[hkd,←bU,hni] at this
  rw[b2.2 (by simpa[or_assoc] using this)] at h;cases h)
 have TE:=ae (show d3=false→¬OkP p from fun h k=>by
  have:=k.kind.hp;rw[hkd,←bU,hnp] at this
  rw[b3.2 (by simpa using this)] at h;cases h)
 have HN4:=ae (show d4=false→¬OkP p from fun h k=>by
  have:=k.kind.hr;rw[hkd,←bU,hnr] at this
  rw[b4.2 (by simpa using this)] at h;cases h)
 have Ze:=ae (show d1=true→d2=true→d3=true→d4=true→ti p from fun h1 h2 h3 h4=>by
  have e1:=b1.1 h1;have e2:=b2.1 h2;have e3:=b3.1 h3;have e4:=b4.1 h4;rw[←hkd,←htx] at e1;rw[←hkd,←hni,bU] at e2;rw[←hkd,←hnp,bU] at e3;rw[←hkd,←hnr,bU] at e4
  exact⟨IH,by simpa using e1,by simpa[or_assoc] using e2,by simpa using e3,by simpa using e4⟩)
 have HW:=ae hW;have kK:=ae pq
 have hst:=ae (show ∀ (X:World) (a:Int),∀ (i:Nat) (x:Int),[a][i]?=some x→(X.alloc (.cells #[.int .i64 a] 3)).cell? ⟨X.heap.size,i,none⟩=some (.int .i64 x) from fun X a i x hx=>by
  rw[ah (aG X _)]
  cases i with
  | zero=>simp at hx;subst hx;rfl
  | succ i=>simp at hx)
 have Fc:=ae (show ∀ (X:World) (a b:Int),∀ (i:Nat) (x:Int),[a,b][i]?=some x→(X.alloc (.cells #[.int .i64 a,.int .i64 b] 3)).cell? ⟨X.heap.size,i,none⟩=some (.int .i64 x) from fun X a b i x hx=>by
  rw[ah (aG X _)]
  rcases i with _|_|i
  ·simp at hx;subst hx;rfl
  ·simp at hx;subst hx;rfl
  ·simp at hx)
 have hkx:af [] W W:=af.refl _ W;have hzx:=hz;obtain⟨W1,hW1⟩:∃ W1,W1=W.alloc (.cells #[.int .i64 1] 3):=⟨_,rfl⟩;have Du:af [] W W1:=by rw[hW1];exact hkx.alloc _
 have hz1:W1.heap.size=w.heap.size+2:=by rw[hW1];simp[hzx]
 have Jh:=ae (show af [] w W1 from pq.trans Du)
 have HB1:=ae (show Calls Tryz.prog 91 #[.int .i64 ((tx.size:Nat):Int),.slice (some ⟨w.heap.size+1,0,none⟩) 1 1,.pointer (some ⟨w.heap.size,0,none⟩)] W1 _ from by
  have:=vR tx.size w.heap.size (w.heap.size+1) 1 kd [1] W1 (wT.out W1 0 _ Du c0) (fun i x hx=>by rw[hW1,←hzx];exact hst.out W 1 i x hx) (by simp) d1 B1.out
  exact this)
 have D1:=ae (And.intro (wT.out W1 0 _ Du c0) (And.intro (wT.out W1 2 _ Du c2) (And.intro (wT.out W1 3 _ Du c3) (And.intro (wT.out W1 4 _ Du c4) hz1))));have HW1:=ae hW1;clear hkx hzx;have hkx:=Du;have hzx:=hz1;obtain⟨W2,hW2⟩:∃ W2,W2=W1.alloc (.cells #[.int .i64 2,.int .i64 4] 3):=⟨_,rfl⟩;have Dt:af [] W W2:=by rw[hW2];exact hkx.alloc _
 have hz2:W2.heap.size=w.heap.size+3:=by rw[hW2];simp[hzx]
 have OY:=ae (show af [] w W2 from pq.trans Dt)
 have HB2:=ae (show Calls Tryz.prog 91 #[.int .i64 ((ni:Nat):Int),.slice (some ⟨w.heap.size+2,0,none⟩) 2 2,.pointer (some ⟨w.heap.size,0,none⟩)] W2 _ from by
  have:=vR ni w.heap.size (w.heap.size+2) 2 kd [2,4] W2 (wT.out W2 0 _ Dt c0) (fun i x hx=>by rw[hW2,←hzx];exact Fc.out W1 2 4 i x hx) (by simp) d2 B2.out
  exact this)
 have D2:=ae (And.intro (wT.out W2 0 _ Dt c0) (And.intro (wT.out W2 2 _ Dt c2) (And.intro (wT.out W2 3 _ Dt c3) (And.intro (wT.out W2 4 _ Dt c4) hz2))));have HW2:=ae hW2;clear hkx hzx;have hkx:=Dt;have hzx:=hz2;obtain⟨W3,hW3⟩:∃ W3,W3=W2.alloc (.cells #[.int .i64 3] 3):=⟨_,rfl⟩;have xB:af [] W W3:=by rw[hW3];exact hkx.alloc _
 have hz3:W3.heap.size=w.heap.size+4:=by rw[hW3];simp[hzx]
 have OX:=ae (show af [] w W3 from pq.trans xB)
 have HB3:=ae (show Calls Tryz.prog 91 #[.int .i64 ((np:Nat):Int),.slice (some ⟨w.heap.size+3,0,none⟩) 1 1,.pointer (some ⟨w.heap.size,0,none⟩)] W3 _ from by
  have:=vR np w.heap.size (w.heap.size+3) 1 kd [3] W3 (wT.out W3 0 _ xB c0) (fun i x hx=>by rw[hW3,←hzx];exact hst.out W2 3 i x hx) (by simp) d3 B3.out
  exact this)
 have D3:=ae (And.intro (wT.out W3 0 _ xB c0) (And.intro (wT.out W3 2 _ xB c2) (And.intro (wT.out W3 3 _ xB c3) (And.intro (wT.out W3 4 _ xB c4) hz3))));have HW3:=ae hW3;clear hkx hzx;have hkx:=xB;have hzx:=hz3;obtain⟨W4,UW⟩:∃ W4,W4=W3.alloc (.cells #[.int .i64 5] 3):=⟨_,rfl⟩;have BH:af [] W W4:=by rw[UW];exact hkx.alloc _
 have Xh:W4.heap.size=w.heap.size+5:=by rw[UW];simp[hzx]
 have HX4:=ae (show af [] w W4 from pq.trans BH)
 have G6:=ae (show Calls Tryz.prog 91 #[.int .i64 ((nr:Nat):Int),.slice (some ⟨w.heap.size+4,0,none⟩) 1 1,.pointer (some ⟨w.heap.size,0,none⟩)] W4 _ from by
  have:=vR nr w.heap.size (w.heap.size+4) 1 kd [5] W4 (wT.out W4 0 _ BH c0) (fun i x hx=>by rw[UW,←hzx];exact hst.out W3 5 i x hx) (by simp) d4 B4.out
  exact this)
 have D4:=ae (And.intro (wT.out W4 0 _ BH c0) (And.intro (wT.out W4 1 _ BH c1) (And.intro (wT.out W4 2 _ BH c2) (And.intro (wT.out W4 3 _ BH c3) (And.intro (wT.out W4 4 _ BH c4) Xh)))));have HW4:=ae UW;clear hkx hzx;have hkx:=BH;have hzx:=Xh;have PV:=ae hkx;have HZ4:=ae hzx;clear hkx hzx Du Dt xB BH hz1 hz2 hz3 Xh hW1 hW2 hW3 UW;have PW:=ae hia;have OZ:=ae hpa;have MS:=ae hra;have wS:=ae hni;have Ec:=ae hnp;have zS:=ae hnr;have GX:=ae htx;have qg:=ae hkd;have HB0:=ae c0;have TH:=ae (show ∀ X j u,af [] W X→W.cell? ⟨w.heap.size,j,none⟩=some u→X.cell? ⟨w.heap.size,j,none⟩=some u from fun X j u hk hc=>ak hk hc);clear b1 b2 b3 b4 hb pq hia hpa hra hsm IH hfl;go_enter Tryz.func50,Tryz.ntmps50
 go_upto_region 1 with(fail)
 rw[←hW];clear hkd htx hni hnp hnr hW;go_wp2_with fail
 rw[←HW1.out];refine HB1.out.mono ?_;rintro r wx ⟨rfl,rfl⟩
 rcases d1 with _|_
 ·go_wp2_with fail
  go_ret;exact⟨⟨_,rfl,fun h=>absurd h (by decide),fun h=>absurd h (Ed.out (by first|rfl|trivial))⟩,Jh.out⟩
 clear c0 c1 c2 c3 c4 HW1 HB1;obtain⟨d10,d12,d13,d14,z1⟩:=D1.out;clear D1;go_wp2_with fail
 rw[←HW2.out];refine HB2.out.mono ?_;rintro r wx ⟨rfl,rfl⟩
 rcases d2 with _|_
 ·go_wp2_with fail
  go_ret;exact⟨⟨_,rfl,fun h=>absurd h (by decide),fun h=>absurd h (O6.out (by first|rfl|trivial))⟩,OY.out⟩
 clear d10 d12 d13 d14 z1 HW2 HB2;obtain⟨d20,d22,d23,d24,z2⟩:=D2.out;clear D2;go_wp2_with fail
 rw[←HW3.out];refine HB3.out.mono ?_;rintro r wx ⟨rfl,rfl⟩
 rcases d3 with _|_
 ·go_wp2_with fail
  go_ret;exact⟨⟨_,rfl,fun h=>absurd h (by decide),fun h=>absurd h (TE.out (by first|rfl|trivial))⟩,OX.out⟩
 clear d20 d22 d23 d24 z2 HW3 HB3;obtain⟨d30,d32,d33,d34,z3⟩:=D3.out;clear D3;go_wp2_with fail
 rw[←HW4.out];refine G6.out.mono ?_;rintro r wx ⟨rfl,rfl⟩
 rcases d4 with _|_
 ·go_wp2_with fail
  go_ret;exact⟨⟨_,rfl,fun h=>absurd h (by decide),fun h=>absurd h (HN4.out (by first|rfl|trivial))⟩,HX4.out⟩
 clear d30 d32 d33 d34 z3 HW4 G6;obtain⟨d40,d41,d42,d43,d44,z4⟩:=D4.out;clear D4;obtain⟨W8,UU⟩:∃ W8,W8=((wx.alloc (.cells #[.bool false] 4)).alloc (gT [])).alloc (.cells #[.map (some (w.heap.size+6))] 150):=⟨_,rfl⟩;have hz8:W8.heap.size=w.heap.size+8:=by rw[UU];simp[z4]
 have zy:af [] W W8:=by rw[UU];exact((PV.out.alloc _).alloc _).alloc _
 have Uz:uk (w.heap.size+5) (w.heap.size+7) (w.heap.size+6) false [] W8:=by have a1:=aG wx (.cells #[.bool false] 4);have a2:=aG (wx.alloc (.cells #[.bool false] 4)) (gT []);have a3:=aG ((wx.alloc (.cells #[.bool false] 4)).alloc (gT [])) (.cells #[.map (some (w.heap.size+6))] 150);simp only[de,z4] at a1 a2 a3;rw[UU];exact⟨alloc_old _ (alloc_old _ a1),a3,alloc_old _ a2⟩
 have e2:=wT.out W8 2 _ zy c2x.out
 have hmk:(Instr.makeMap 150 none).run Tryz.prog (wx.alloc (.cells #[.bool false] 4))=.ok (.map (some (w.heap.size+6))) ((wx.alloc (.cells #[.bool false] 4)).alloc (gT [])):=by rw[A4,de,z4]
 have Ty:=ae UU;have Zq:=ae Uz;have Cr:=ae zy;clear UU Uz zy
 go_upto_region 7 with(fail)
 rw[←Ty.out];have IG:ni≤1048576:=by rw[←wS.out];exact HO.out.lO
 have htb:tx.size≤1048576:=by rw[←GX.out];exact HO.out.text
 have Ea:Hid (kQ (w.heap.size+5) (w.heap.size+7) (w.heap.size+6) (¬(nmI p 0).Nodup) (nmI p 0) W8∧af [] w W8∧af [] W W8):=ae ⟨by
  have e:nmI p 0=[]:=by unfold nmI;split<;>simp
  rw[e]
  exact⟨_,_,Zq.out,by simp,by simp⟩,kK.out.trans Cr.out,Cr.out⟩
 clear d40 d41 d42 d43 d44 hmk;go_wp2_with fail
 go_loopw [67,4,9] (fun i lg _ X=>∃ k L:Nat,i=.int .i64 (k:Int)∧k≤ni∧lg=.int .i64 (L:Int)∧L≤1048576∧Hid (kQ (w.heap.size+5) (w.heap.size+7) (w.heap.size+6) (¬(nmI p k).Nodup) (nmI p k) X∧af [] w X∧af [] W X)) (fun i _ _ _=>ni-(intOf i).toNat)
 case atStart=>exact⟨0,tx.size,rfl,bz _,rfl,htb,Ea⟩
 case round=>
  obtain⟨k,L,rfl,hk,rfl,hL,HV⟩:=hrel;clear e2;have dk:=TH.out wr 0 _ HV.out.2.2 HB0.out
  by_cases hlt:k<ni
  ·obtain⟨x,hx⟩:∃ x,p.items[k]?=some x:=⟨_,ag (by rw[wS.out];exact hlt)⟩;obtain⟨g,off,rfl,hcc⟩:=PW.out (by have:=wS.out;omega);have R0:=hcc k x hx 0 (.string x) rfl;rw[bB,Nat.add_zero] at R0;have hcx:=ak HV.out.2.1 R0;have hkn:(k:Int)<(ni:Int):=by omega
   have hxs:x.size≤1048576:=HO.out.item (aB hx);have hmx:∃ L2:Nat,max (L:Int) (x.size:Int)=(L2:Int)∧L2≤1048576:=⟨max L x.size,by omega,by omega⟩;obtain⟨L2,hL2,UZ⟩:=hmx;have HX:=ae hx;clear hx R0 hcc
   by_cases h4:kd=4
   ·have h4b:decide (kd=4)=true:=by simp[h4]
    have hnm:nmI p (k+1)=nmI p k++[x]:=by unfold nmI;rw[qg.out,aQ h4,aQ h4,c8,HX.out];rfl
    have Cf:=ae hnm;have MR:=ae (Ql _ _ _ _ _ x wr HV.out.1);unfold dp at MR;clear hnm;go_wp2_with fail
    refine MR.out.mono ?_;rintro r w5 ⟨rfl,h5,k5⟩;have sb:Hid (kQ (w.heap.size+5) (w.heap.size+7) (w.heap.size+6) (¬(nmI p (k+1)).Nodup) (nmI p (k+1)) w5∧af [] w w5∧af [] W w5):=ae ⟨by rw[Cf.out];exact h5.snoc,HV.out.2.1.step k5 (fun b hb=>.inr (by simp at hb;omega)),HV.out.2.2.step k5 (fun b hb=>.inr (by simp at hb;omega))⟩;clear h5 k5;go_wp2_with fail
    subst h4;go_roundw
    case rel=>exact⟨k+1,L2,rfl,by omega,rfl,UZ,sb⟩
    case measure=>simp[intOf];omega
   ·have h4b:decide (kd=4)=false:=by simp[h4]
    have sb:Hid (kQ (w.heap.size+5) (w.heap.size+7) (w.heap.size+6) (¬(nmI p (k+1)).Nodup) (nmI p (k+1)) wr∧af [] w wr∧af [] W wr):=ae (by
     have e:nmI p (k+1)=nmI p k:=by unfold nmI;rw[qg.out,aJ h4,aJ h4]
     rw[e];exact HV.out)
    go_wp2_with fail
    refine⟨⟨k+1,L2,rfl,by omega,rfl,UZ,sb⟩,?_⟩;simp[intOf];omega
  ·obtain rfl:k=ni:=by omega
   have e3:=TH.out wr 3 _ HV.out.2.2 c3x.out
   have TA:Hid (kQ (w.heap.size+5) (w.heap.size+7) (w.heap.size+6) (¬(nmP p 0).Nodup) (nmP p 0) wr∧af [] w wr∧af [] W wr):=ae (by
    have e:nmP p 0=nmI p k:=by unfold nmP;rw[wS.out];simp
    rw[e];exact HV.out)
   have IF:np≤1048576:=by rw[←Ec.out];exact HO.out.mO
   clear dk HV;go_wp2_with fail
   go_loopw [85,4,11] (fun i lg _ X=>∃ k L:Nat,i=.int .i64 (k:Int)∧k≤np∧lg=.int .i64 (L:Int)∧L≤1048576∧Hid (kQ (w.heap.size+5) (w.heap.size+7) (w.heap.size+6) (¬(nmP p k).Nodup) (nmP p k) X∧af [] w X∧af [] W X)) (fun i _ _ _=>np-(intOf i).toNat)
   case atStart=>exact⟨0,_,rfl,bz _,rfl,by assumption,TA⟩
   case round=>
    obtain⟨k2,L2,rfl,hk2,rfl,hL2,HV⟩:=hrel;clear e3
    by_cases hlt:k2<np
    ·obtain⟨x,hx⟩:∃ x,p.bL[k2]?=some x:=⟨_,ag (by rw[Ec.out];exact hlt)⟩;obtain⟨g,off,rfl,hcc⟩:=OZ.out (by have:=Ec.out;omega);have d0:=hcc k2 x hx 0 (.string x.1) rfl;have d1:=hcc k2 x hx 1 (.string x.2) rfl;have hcx:=ak HV.out.2.1 d0;have hcy:=ak HV.out.2.1 d1;rw[Nat.add_zero] at hcx;have hkn:(k2:Int)<(np:Int):=by omega
     have hxs:x.1.size≤1048576:=HO.out.field (aB hx);have hys:x.2.size≤1048576:=HO.out.val (aB hx);obtain⟨w3,hw3⟩:∃ w3,wr.alloc (.cells #[.string x.1,.string x.2] 51)=w3:=⟨_,rfl⟩;have hb3:w3.heap[wr.heap.size]?=some (.cells #[.string x.1,.string x.2] 51 (0,0)):=by rw[←hw3];exact aG wr _
     have hk3:af [] wr w3:=by rw[←hw3];exact(af.refl _ wr).alloc _
     have g0:w3.cell? ⟨wr.heap.size,0,none⟩=some (.string x.1):=by rw[ah hb3];rfl
     have g1:w3.cell? ⟨wr.heap.size,1,none⟩=some (.string x.2):=by rw[ah hb3];rfl
     have Cf:=ae (Kr hx);have MR:=ae (Ql _ _ _ _ _ x.1 w3 (HV.out.1.aN hk3));have zt:=ae hk3;unfold dp at MR;obtain⟨xk,xv⟩:=x;simp only at hcx hcy hxs hys hw3 g0 g1 Cf MR;clear hx hcc d0 d1 hb3 hk3;go_wp2_with fail
     all_goals
      refine MR.out.mono ?_;rintro r w5 ⟨rfl,h5,k5⟩;have k6:=(zt.out.mono (cs:=[w.heap.size+5,w.heap.size+6]) (by simp)).trans k5;have sb:Hid (kQ (w.heap.size+5) (w.heap.size+7) (w.heap.size+6) (¬(nmP p (k2+1)).Nodup) (nmP p (k2+1)) w5∧af [] w w5∧af [] W w5):=ae ⟨by rw[Cf.out];exact h5.snoc,HV.out.2.1.step k6 (fun b hb=>.inr (by simp at hb;omega)),HV.out.2.2.step k6 (fun b hb=>.inr (by simp at hb;omega))⟩;clear h5 k5 k6;go_wp2_with fail
      go_roundw
      case rel=>exact⟨k2+1,_,rfl,by omega,rfl,by first|exact hL2|exact hxs|exact hys,sb⟩
      case measure=>simp[intOf];omega
    ·obtain rfl:k2=np:=by omega
     have e4:=TH.out wr 4 _ HV.out.2.2 c4x.out;have IE:nr≤1048576:=by rw[←zS.out];exact HO.out.mN
     have TA:Hid (kQ (w.heap.size+5) (w.heap.size+7) (w.heap.size+6) (QR p 0) (nmR p 0) wr∧af [] w wr∧af [] W wr):=ae (by
      have e:nmR p 0=nmP p k2:=by unfold nmR;rw[Ec.out];simp
      have e2:QR p 0↔¬(nmP p k2).Nodup:=by unfold QR;rw[e];simp
      rw[e];exact⟨HV.out.1.of e2.symm,HV.out.2⟩)
     clear HV;go_wp2_with fail
     go_loopw [105,4,13] (fun i lg _ X=>∃ k L:Nat,i=.int .i64 (k:Int)∧k≤nr∧lg=.int .i64 (L:Int)∧L≤1048576∧Hid (kQ (w.heap.size+5) (w.heap.size+7) (w.heap.size+6) (QR p k) (nmR p k) X∧af [] w X∧af [] W X)) (fun i _ _ _=>nr-(intOf i).toNat)
     case atStart=>exact⟨0,_,rfl,bz _,rfl,by assumption,TA⟩
     case round=>
      obtain⟨k3,L3,rfl,hk3,rfl,hL3,HV⟩:=hrel;clear e4
      by_cases hlt:k3<nr
      ·obtain⟨x,hx⟩:∃ x,p.bI[k3]?=some x:=⟨_,ag (by rw[zS.out];exact hlt)⟩;obtain⟨g,off,rfl,hcc⟩:=MS.out (by have:=zS.out;omega);have d0:=hcc k3 x hx 0 (.string x.1) rfl;have d1:=hcc k3 x hx 1 (.float .f64 x.2) rfl;have hcx:=ak HV.out.2.1 d0;have hcy:=ak HV.out.2.1 d1;rw[Nat.add_zero] at hcx;have hkn:(k3:Int)<(nr:Int):=by omega
       have hxs:x.1.size≤1048576:=HO.out.mem (aB hx);obtain⟨w3,hw3⟩:∃ w3,wr.alloc (.cells #[.string x.1,.float .f64 x.2] 54)=w3:=⟨_,rfl⟩;have hb3:w3.heap[wr.heap.size]?=some (.cells #[.string x.1,.float .f64 x.2] 54 (0,0)):=by rw[←hw3];exact aG wr _
       have xB:af [] wr w3:=by rw[←hw3];exact(af.refl _ wr).alloc _
       have g0:w3.cell? ⟨wr.heap.size,0,none⟩=some (.string x.1):=by rw[ah hb3];rfl
       have g1:w3.cell? ⟨wr.heap.size,1,none⟩=some (.float .f64 x.2):=by rw[ah hb3];rfl
       have Cf:=ae (C6 hx);have HQN:=ae (OM hx);have MR:=ae (Ql _ _ _ _ _ x.1 w3 (HV.out.1.aN xB));have zt:=ae xB;obtain⟨nb,hnb⟩:∃ nb,nb=decide (fl.cD<x.2 % 9223372036854775808):=⟨_,rfl⟩;have O5:=ae (fun W=>fl.wI x.2 nb W (by rw[hnb];exact Kt x.2 (qO.out x (aB hx))));have sh:=ae hnb;obtain⟨L4,hL4,UY⟩:∃ L4:Nat,max (L3:Int) (x.1.size:Int)=(L4:Int)∧L4≤1048576:=⟨max L3 x.1.size,by omega,by omega⟩;unfold dp at MR;obtain⟨xk,xv⟩:=x;simp only at hcx hcy hxs hw3 g0 g1 Cf MR O5 sh HQN hL4;clear hx hcc d0 d1 hb3 xB hnb;go_wp2_with fail
       all_goals
        refine MR.out.mono ?_;rintro r w5 ⟨rfl,h5,k5⟩;have k6:=(zt.out.mono (cs:=[w.heap.size+5,w.heap.size+6]) (by simp)).trans k5;have Z9:=HV.out.2.1.step k6 (fun b hb=>.inr (by simp at hb;omega));have kW5:=HV.out.2.2.step k6 (fun b hb=>.inr (by simp at hb;omega));obtain⟨tw0,F0,hC0,_,_⟩:=HV.out.1.ex;have hbig:=ks.hlt hC0.m;obtain⟨tw,F,hC,hQ,hM⟩:=h5.ex;have ct:w5.cell? ⟨w.heap.size+5,0,none⟩=some (.bool tw):=by rw[ah hC.t];rfl
        have ft:w5.frozen? ⟨w.heap.size+5,0,none⟩=false:=bC hC.t 0;have gx:=eM k5 g1 (by simp;omega);have kS:=fun(b:Bool)=>(af.refl [w.heap.size+5] w5).setCell (p:=⟨w.heap.size+5,0,none⟩) (.inl (by simp)) (.bool b)
        have HVN:=ae (show ∀ t2:Bool,(t2=true↔tw=true∨nb=true)→Hid (kQ (w.heap.size+5) (w.heap.size+7) (w.heap.size+6) (QR p (k3+1)) (nmR p (k3+1)) (w5.setCell ⟨w.heap.size+5,0,none⟩ (.bool t2))∧af [] w (w5.setCell ⟨w.heap.size+5,0,none⟩ (.bool t2))∧af [] W (w5.setCell ⟨w.heap.size+5,0,none⟩ (.bool t2))) from fun t2 ht=>ae ⟨by
         rw[Cf.out];refine⟨t2,F,hC.put t2,?_,hM⟩;rw[ht,hQ,sh.out,cz]
         exact HQN.out,Z9.step (kS t2) (fun b hb=>.inr (by simp at hb;omega)),kW5.step (kS t2) (fun b hb=>.inr (by simp at hb;omega))⟩)
        clear h5 k5 k6 Z9 kW5 hC hQ hM hC0 hbig kS hcx hcy g0 g1
        rcases tw with _|_
        ·go_wp2_with fail
         refine(O5.out _).mono ?_;rintro r w7 ⟨rfl,rfl⟩;go_wp2_with fail
         go_roundw
         case rel=>exact⟨k3+1,L4,rfl,by omega,rfl,UY,HVN.out nb (by simp)⟩
         case measure=>simp[intOf];omega
        ·go_wp2_with fail
         go_roundw
         case rel=>exact⟨k3+1,L4,rfl,by omega,rfl,UY,HVN.out true (by simp)⟩
         case measure=>simp[intOf];omega
      ·obtain rfl:k3=nr:=by omega
       obtain⟨tw,F,hC,hQ,hM⟩:=HV.out.1.ex;have ct:wr.cell? ⟨w.heap.size+5,0,none⟩=some (.bool tw):=by rw[ah hC.t];rfl
       have e2:=TH.out wr 2 _ HV.out.2.2 c2x.out;have e3:=TH.out wr 3 _ HV.out.2.2 c3x.out;have e4:=TH.out wr 4 _ HV.out.2.2 c4x.out;have hOK:=ae (show OkP p↔¬(tw=true) from(T9 HO.out (Ze.out (by first|rfl|trivial) (by first|rfl|trivial) (by first|rfl|trivial) (by first|rfl|trivial))).trans (by rw[hQ,zS.out]));have Wp:=ae HV.out.2.1;clear hC hQ hM HV
       rcases tw with _|_
       ·go_wp2_with fail
        all_goals
         go_ret;exact⟨⟨_,rfl,fun _=>hOK.out.2 (by first|trivial|simp),fun _=>rfl⟩,Wp.out⟩
       ·go_wp2_with fail
        go_ret;exact⟨⟨_,rfl,fun h=>absurd h (by decide),fun h=>absurd (by first|rfl|trivial) (hOK.out.1 h)⟩,Wp.out⟩
end jw
end Go.Proofs.YthpdlidbaojlbaaGreatDoor
