/- What the walks of these claims import. -/
import Derived.Test.YthpdlidbaojlbaaGreatDoorQ20
set_option linter.unusedVariables false
set_option linter.unusedSimpArgs false
set_option maxHeartbeats 4000000
open Go.ChangeShapes Go.WideShapes Go.RowKit
namespace Go.Proofs.YthpdlidbaojlbaaGreatDoor
namespace jw
open ks (af ae hlt ah bC alloc_old aG aX aT dp)
theorem Iw (u:Value) (w:World):(method 467 152 u "pantry/value.kind").run Tryz.prog w=.ok (319,u) w:=by kernel_rfl
theorem EX (u:Value) (w:World):(method 467 152 u "pantry/value.empty").run Tryz.prog w=.ok (318,u) w:=by kernel_rfl
theorem Rn (u:Value) (w:World):(method 467 152 u "pantry/value.plain").run Tryz.prog w=.ok (320,u) w:=by kernel_rfl
theorem Ix (u:Value) (w:World):(method 467 163 u "pantry/value.kind").run Tryz.prog w=.ok (325,u) w:=by kernel_rfl
theorem EY (u:Value) (w:World):(method 467 163 u "pantry/value.empty").run Tryz.prog w=.ok (324,u) w:=by kernel_rfl
theorem Ro (u:Value) (w:World):(method 467 163 u "pantry/value.plain").run Tryz.prog w=.ok (326,u) w:=by kernel_rfl
theorem De (u:Value) (w:World):(method 467 173 u "pantry/value.kind").run Tryz.prog w=.ok (335,u) w:=by kernel_rfl
theorem Bo (u:Value) (w:World):(method 467 173 u "pantry/value.empty").run Tryz.prog w=.ok (334,u) w:=by kernel_rfl
theorem NT (u:Value) (w:World):(method 467 173 u "pantry/value.plain").run Tryz.prog w=.ok (336,u) w:=by kernel_rfl
theorem EW (u:Value) (w:World):(method 467 182 u "pantry/value.kind").run Tryz.prog w=.ok (369,u) w:=by kernel_rfl
theorem Dg (u:Value) (w:World):(method 467 182 u "pantry/value.empty").run Tryz.prog w=.ok (368,u) w:=by kernel_rfl
theorem Pp (u:Value) (w:World):(method 467 182 u "pantry/value.plain").run Tryz.prog w=.ok (370,u) w:=by kernel_rfl
theorem EV (u:Value) (w:World):(method 467 193 u "pantry/value.kind").run Tryz.prog w=.ok (395,u) w:=by kernel_rfl
theorem Df (u:Value) (w:World):(method 467 193 u "pantry/value.empty").run Tryz.prog w=.ok (394,u) w:=by kernel_rfl
theorem Po (u:Value) (w:World):(method 467 193 u "pantry/value.plain").run Tryz.prog w=.ok (396,u) w:=by kernel_rfl
set_option maxRecDepth 100000 in
theorem Tp (vb:Nat) (u x:Value) (w:World) (h:w.heap[vb]?=some (gP 152 u)) (hc:Calls Tryz.prog 319 #[u] w fun r w'=>r=.returned x∧af [] w w'):
  Calls Tryz.prog 66 #[dp vb] w fun r w'=>r=.returned x∧af [] w w':=by
 have hc0:w.cell? ⟨vb,0,none⟩=some (.iface 152 u):=by rw[ah h];rfl
 have hm:=Iw u w;have HC:=ae hc;clear h hc;unfold dp;go_enter Tryz.func66,Tryz.ntmps66
 go_wp2_with fail
 refine HC.out.mono ?_;rintro r w' ⟨rfl,hk⟩;have HK:=ae hk;clear hk hc0;go_wp2_with fail
 go_ret;exact⟨rfl,HK.out⟩
set_option maxRecDepth 100000 in
theorem Fm (vb:Nat) (u x:Value) (w:World) (h:w.heap[vb]?=some (gP 152 u)) (hc:Calls Tryz.prog 318 #[u] w fun r w'=>r=.returned x∧af [] w w'):
  Calls Tryz.prog 18 #[dp vb] w fun r w'=>r=.returned x∧af [] w w':=by
 have hc0:w.cell? ⟨vb,0,none⟩=some (.iface 152 u):=by rw[ah h];rfl
 have hm:=EX u w;have HC:=ae hc;clear h hc;unfold dp;go_enter Tryz.func18,Tryz.ntmps18
 go_wp2_with fail
 refine HC.out.mono ?_;rintro r w' ⟨rfl,hk⟩;have HK:=ae hk;clear hk hc0;go_wp2_with fail
 go_ret;exact⟨rfl,HK.out⟩
set_option maxRecDepth 100000 in
theorem Tq (vb:Nat) (u x:Value) (w:World) (h:w.heap[vb]?=some (gP 163 u)) (hc:Calls Tryz.prog 325 #[u] w fun r w'=>r=.returned x∧af [] w w'):
  Calls Tryz.prog 66 #[dp vb] w fun r w'=>r=.returned x∧af [] w w':=by
 have hc0:w.cell? ⟨vb,0,none⟩=some (.iface 163 u):=by rw[ah h];rfl
 have hm:=Ix u w;have HC:=ae hc;clear h hc;unfold dp;go_enter Tryz.func66,Tryz.ntmps66
 go_wp2_with fail
 refine HC.out.mono ?_;rintro r w' ⟨rfl,hk⟩;have HK:=ae hk;clear hk hc0;go_wp2_with fail
 go_ret;exact⟨rfl,HK.out⟩
set_option maxRecDepth 100000 in
theorem Fo (vb:Nat) (u x:Value) (w:World) (h:w.heap[vb]?=some (gP 163 u)) (hc:Calls Tryz.prog 324 #[u] w fun r w'=>r=.returned x∧af [] w w'):
  Calls Tryz.prog 18 #[dp vb] w fun r w'=>r=.returned x∧af [] w w':=by
 have hc0:w.cell? ⟨vb,0,none⟩=some (.iface 163 u):=by rw[ah h];rfl
 have hm:=EY u w;have HC:=ae hc;clear h hc;unfold dp;go_enter Tryz.func18,Tryz.ntmps18
 go_wp2_with fail
 refine HC.out.mono ?_;rintro r w' ⟨rfl,hk⟩;have HK:=ae hk;clear hk hc0;go_wp2_with fail
 go_ret;exact⟨rfl,HK.out⟩
set_option maxRecDepth 100000 in
theorem Ps (vb:Nat) (u x:Value) (w:World) (h:w.heap[vb]?=some (gP 173 u)) (hc:Calls Tryz.prog 335 #[u] w fun r w'=>r=.returned x∧af [] w w'):
  Calls Tryz.prog 66 #[dp vb] w fun r w'=>r=.returned x∧af [] w w':=by
 have hc0:w.cell? ⟨vb,0,none⟩=some (.iface 173 u):=by rw[ah h];rfl
 have hm:=De u w;have HC:=ae hc;clear h hc;unfold dp;go_enter Tryz.func66,Tryz.ntmps66
 go_wp2_with fail
 refine HC.out.mono ?_;rintro r w' ⟨rfl,hk⟩;have HK:=ae hk;clear hk hc0;go_wp2_with fail
 go_ret;exact⟨rfl,HK.out⟩
set_option maxRecDepth 100000 in
theorem BO (vb:Nat) (u x:Value) (w:World) (h:w.heap[vb]?=some (gP 173 u)) (hc:Calls Tryz.prog 334 #[u] w fun r w'=>r=.returned x∧af [] w w'):
  Calls Tryz.prog 18 #[dp vb] w fun r w'=>r=.returned x∧af [] w w':=by
 have hc0:w.cell? ⟨vb,0,none⟩=some (.iface 173 u):=by rw[ah h];rfl
 have hm:=Bo u w;have HC:=ae hc;clear h hc;unfold dp;go_enter Tryz.func18,Tryz.ntmps18
 go_wp2_with fail
 refine HC.out.mono ?_;rintro r w' ⟨rfl,hk⟩;have HK:=ae hk;clear hk hc0;go_wp2_with fail
 go_ret;exact⟨rfl,HK.out⟩
set_option maxRecDepth 100000 in
theorem Ry (vb:Nat) (u x:Value) (w:World) (h:w.heap[vb]?=some (gP 182 u)) (hc:Calls Tryz.prog 369 #[u] w fun r w'=>r=.returned x∧af [] w w'):
  Calls Tryz.prog 66 #[dp vb] w fun r w'=>r=.returned x∧af [] w w':=by
 have hc0:w.cell? ⟨vb,0,none⟩=some (.iface 182 u):=by rw[ah h];rfl
 have hm:=EW u w;have HC:=ae hc;clear h hc;unfold dp;go_enter Tryz.func66,Tryz.ntmps66
 go_wp2_with fail
 refine HC.out.mono ?_;rintro r w' ⟨rfl,hk⟩;have HK:=ae hk;clear hk hc0;go_wp2_with fail
 go_ret;exact⟨rfl,HK.out⟩
set_option maxRecDepth 100000 in
theorem DI (vb:Nat) (u x:Value) (w:World) (h:w.heap[vb]?=some (gP 182 u)) (hc:Calls Tryz.prog 368 #[u] w fun r w'=>r=.returned x∧af [] w w'):
  Calls Tryz.prog 18 #[dp vb] w fun r w'=>r=.returned x∧af [] w w':=by
 have hc0:w.cell? ⟨vb,0,none⟩=some (.iface 182 u):=by rw[ah h];rfl
 have hm:=Dg u w;have HC:=ae hc;clear h hc;unfold dp;go_enter Tryz.func18,Tryz.ntmps18
 go_wp2_with fail
 refine HC.out.mono ?_;rintro r w' ⟨rfl,hk⟩;have HK:=ae hk;clear hk hc0;go_wp2_with fail
 go_ret;exact⟨rfl,HK.out⟩
set_option maxRecDepth 100000 in
theorem Rx (vb:Nat) (u x:Value) (w:World) (h:w.heap[vb]?=some (gP 193 u)) (hc:Calls Tryz.prog 395 #[u] w fun r w'=>r=.returned x∧af [] w w'):
  Calls Tryz.prog 66 #[dp vb] w fun r w'=>r=.returned x∧af [] w w':=by
 have hc0:w.cell? ⟨vb,0,none⟩=some (.iface 193 u):=by rw[ah h];rfl
 have hm:=EV u w;have HC:=ae hc;clear h hc;unfold dp;go_enter Tryz.func66,Tryz.ntmps66
 go_wp2_with fail
 refine HC.out.mono ?_;rintro r w' ⟨rfl,hk⟩;have HK:=ae hk;clear hk hc0;go_wp2_with fail
 go_ret;exact⟨rfl,HK.out⟩
set_option maxRecDepth 100000 in
theorem DH (vb:Nat) (u x:Value) (w:World) (h:w.heap[vb]?=some (gP 193 u)) (hc:Calls Tryz.prog 394 #[u] w fun r w'=>r=.returned x∧af [] w w'):
  Calls Tryz.prog 18 #[dp vb] w fun r w'=>r=.returned x∧af [] w w':=by
 have hc0:w.cell? ⟨vb,0,none⟩=some (.iface 193 u):=by rw[ah h];rfl
 have hm:=Df u w;have HC:=ae hc;clear h hc;unfold dp;go_enter Tryz.func18,Tryz.ntmps18
 go_wp2_with fail
 refine HC.out.mono ?_;rintro r w' ⟨rfl,hk⟩;have HK:=ae hk;clear hk hc0;go_wp2_with fail
 go_ret;exact⟨rfl,HK.out⟩
structure jB (B:Nat) (w:World) (iv pv rv:Value) (its:List ByteArray) (vj:List (ByteArray×ByteArray)) (vZ:List (ByteArray×Nat)):Prop where
 items:bF b9 1 9 B w iv its
 bL:bF gJ 2 51 B w pv vj
 bI:bF dN 2 54 B w rv vZ
theorem jB.mono {B B':Nat} {w:World} {iv pv rv:Value} {its:List ByteArray} {vj:List (ByteArray×ByteArray)} {vZ:List (ByteArray×Nat)} (h:jB B w iv pv rv its vj vZ) (hb:B'≤B):jB B' w iv pv rv its vj vZ:=⟨h.items.mono hb,h.bL.mono hb,h.bI.mono hb⟩
theorem jB.stored {B b k:Nat} {w w':World} {iv pv rv i2 p2 r2:Value} {t:ByteArray} {its:List ByteArray} {vj:List (ByteArray×ByteArray)} {vZ:List (ByteArray×Nat)} (h:jB B w iv pv rv its vj vZ) (hb:w.heap[b]?=some (uS k t i2 p2 r2)) (hk:af [b] w w'):jB B w' iv pv rv its vj vZ:=⟨h.items.keeps hk (fun c hc hm=>by simp at hm;subst hm;exact h.items.bw hb (by decide) hc),h.bL.keeps hk (fun c hc hm=>by simp at hm;subst hm;exact h.bL.bw hb (by decide) hc),h.bI.keeps hk (fun c hc hm=>by simp at hm;subst hm;exact h.bI.bw hb (by decide) hc)⟩
theorem jB.one {B:Nat} {w:World} {iv pv rv:Value} {t:ByteArray} {its:List ByteArray} {vj:List (ByteArray×ByteArray)} {vZ:List (ByteArray×Nat)} (h:jB B w iv pv rv its vj vZ) (x:Value) (hx:x.oneCell'=true):(#[x,.string t,iv,pv,rv]:Array Value).all (·.oneCell')=true:=by obtain⟨_,_,rfl,_⟩:=h.items.form;obtain⟨_,_,rfl,_⟩:=h.bL.form;obtain⟨_,_,rfl,_⟩:=h.bI.form;simp[hx];exact⟨rfl,rfl,rfl,rfl⟩
theorem uG:(Tryz.prog.info? 36).map (·.size)=some 5:=by kernel_rfl
def TN:Obj:=.cells #[.int .i64 0,.string ⟨#[]⟩,.slice none 0 0,.slice none 0 0,.slice none 0 0] 36
theorem zC {P:Program} {W:World} {ops:Array Oper} {rest:List Oper} {o:Oper} {a:Act} {Q:Exit→Act→World→Prop} (hgd:o.guard=none) (d s:Operand) (t t':TypeId) (ho:o.op=.call { callee:=.builtin .copy,args:=#[d,s],argTypes:=#[t,t'] })
  (v u:Value) (hd:a.eval d=v) (hs:a.eval s=u) {v':Value} {w':World} (hr:(Builtin.copy_ #[t,t'] o.type #[v,u]).run P W=.ok v' w') (h:wpList P ops Q rest (a.put o.dst v') w'):wpList P ops Q (o::rest) a W:=qQ hgd fun _ hK=>Ha d s t t' ho v u hd hs hr (hK _ _ h)
set_option maxRecDepth 100000 in
theorem Bd (T KF P k:Nat) (ki:Int) (hki:ki=(k:Int)) (hq:T=152∧KF=319∧P=320∨T=163∧KF=325∧P=326∨T=173∧KF=335∧P=336∨T=182∧KF=369∧P=370∨T=193∧KF=395∧P=396) (vb:Nat) (u:Value) (w:World) (Φ:ByteArray→List ByteArray→List (ByteArray×ByteArray)→List (ByteArray×Nat)→Prop) (h:w.heap[vb]?=some (gP T u))
  (hk:∀ W,af [] w W→Calls Tryz.prog KF #[u] W fun r w'=>r=.returned (.int .i64 ki)∧af [] W w')
  (hp:∀ W ob,af [] w W→w.heap.size≤ob→W.heap[ob]?=some (uS k ByteArray.empty (.slice none 0 0) (.slice none 0 0) (.slice none 0 0))→Calls Tryz.prog P #[u,dp ob] W fun r w'=>r=.returned (.tuple #[])∧
   ∃ t iv pv rv its vj vZ,w'.heap[ob]?=some (uS k t iv pv rv)∧jB W.heap.size w' iv pv rv its vj vZ∧Φ t its vj vZ∧af [ob] W w'):
  Calls Tryz.prog 20 #[dp vb] w fun r w'=>∃ t iv pv rv its vj vZ,r=.returned (.agg #[.int .i64 ki,.string t,iv,pv,rv])∧jB w.heap.size w' iv pv rv its vj vZ∧Φ t its vj vZ∧af [] w w':=by
 subst hki
 obtain⟨W2,hW2⟩:∃ W2,W2=(w.alloc TN).alloc TN:=⟨_,rfl⟩
 have hk2:af [] w W2:=by rw[hW2];exact((af.refl _ w).alloc _).alloc _
 have hz2:W2.heap.size=w.heap.size+2:=by rw[hW2];simp
 have hv2:=hk2.get h (by simp)
 have ha:W2.heap[w.heap.size]?=some (uS 0 ByteArray.empty (.slice none 0 0) (.slice none 0 0) (.slice none 0 0)):=by rw[hW2];exact alloc_old _ (aG _ _)
 have hb:W2.heap[w.heap.size+1]?=some (uS 0 ByteArray.empty (.slice none 0 0) (.slice none 0 0) (.slice none 0 0)):=by
  rw[hW2]
  have:=aG (w.alloc TN) TN
  rw[de] at this
  exact this
 have PU:Hid (Calls Tryz.prog 66 #[dp vb] W2 fun r w'=>r=.returned (.int .i64 (k:Int))∧af [] W2 w'):=ae (by
  rcases hq with⟨rfl,rfl,_⟩|⟨rfl,rfl,_⟩|⟨rfl,rfl,_⟩|⟨rfl,rfl,_⟩|⟨rfl,rfl,_⟩
  ·exact Tp vb u _ W2 hv2 (hk W2 hk2)
  ·exact Tq vb u _ W2 hv2 (hk W2 hk2)
  ·exact Ps vb u _ W2 hv2 (hk W2 hk2)
  ·exact Ry vb u _ W2 hv2 (hk W2 hk2)
  ·exact Rx vb u _ W2 hv2 (hk W2 hk2))
 have vV:=ae hp
 have HW2:=ae hW2
 have kM:=ae hk2
 have HZ2:=ae hz2
 have HA:=ae ha
 have HB:=ae hb
 have HV:=ae h
 clear h hk hp hk2 hz2 hv2 ha hb
 have hvl:=hlt HV.out
 unfold dp at PU vV ⊢
 go_enter Tryz.func20,Tryz.ntmps20
 go_upto_region 3 with(fail)
 rw[show((w.alloc (.cells #[.int .i64 0,.string ⟨#[]⟩,.slice none 0 0,.slice none 0 0,.slice none 0 0] 36)).alloc (.cells #[.int .i64 0,.string ⟨#[]⟩,.slice none 0 0,.slice none 0 0,.slice none 0 0] 36))=W2 from hW2.symm]
 clear hW2
 go_wp2_with fail
 refine PU.out.mono ?_
 rintro r w3 ⟨rfl,hk3⟩
 have GA:=hk3.get HA.out (by simp)
 have hb3:=hk3.get HB.out (by simp)
 have hv3:=(kM.out.trans hk3).get HV.out (by simp)
 have c0:w3.cell? ⟨w.heap.size+1,0,none⟩=some (.int .i64 0):=by rw[ah hb3];rfl
 have f0:w3.frozen? ⟨w.heap.size+1,0,none⟩=false:=bC hb3 0
 have cv:w3.cell? ⟨vb,0,none⟩=some (.iface T u):=by rw[ah hv3];rfl
 have hne:¬(w.heap.size+1=vb):=by omega
 have hm0:=fun W=>Rn u W
 have hm1:=fun W=>Ro u W
 have hm2:=fun W=>NT u W
 have X7:=fun W=>Pp u W
 have hm4:=fun W=>Po u W
 rcases hq with⟨rfl,rfl,rfl⟩|⟨rfl,rfl,rfl⟩|⟨rfl,rfl,rfl⟩|⟨rfl,rfl,rfl⟩|⟨rfl,rfl,rfl⟩
 all_goals
  go_wp2_with fail
  obtain⟨W4,UW⟩:∃ W4,W4=w3.setCell ⟨w.heap.size+1,0,none⟩ (.int .i64 (k:Int)):=⟨_,rfl⟩
  have hk4:af [w.heap.size+1] w3 W4:=by rw[UW];exact(af.refl _ w3).setCell (p:=⟨w.heap.size+1,0,none⟩) (.inl (by simp)) _
  have hb4:W4.heap[w.heap.size+1]?=some (uS k ByteArray.empty (.slice none 0 0) (.slice none 0 0) (.slice none 0 0)):=by rw[UW,aX hb3 0 _];rfl
  have ha4:W4.heap[w.heap.size]?=some (uS 0 ByteArray.empty (.slice none 0 0) (.slice none 0 0) (.slice none 0 0)):=hk4.get GA (by simp)
  have hkw4:af [] w W4:=(kM.out.trans hk3).step hk4 (fun b hb=>.inr (by simp at hb;omega))
  rw[←UW]
  clear UW hk3 hk4 GA hb3 hv3 c0 f0 cv hm0 hm1 hm2 X7 hm4
  have HKW4:=ae hkw4
  refine(vV.out W4 (w.heap.size+1) hkw4 (by omega) hb4).mono ?_
  clear hkw4 hb4
  rintro r w5 ⟨rfl,t,iv,pv,rv,its,vj,vZ,ho5,hp5,hph,hk5⟩
  have PQ:=ae ho5
  have S8:=ae hp5
  have HPH:=ae hph
  have AO:=ae hk5
  have P0:=ae (hk5.get ha4 (by simp))
  clear ho5 hp5 hph hk5 ha4
  unfold uS at PQ P0
  go_wp2_with (first|(refine kV rfl 36 _ rfl (w.heap.size+1) rfl _ _ (0,0) _ PQ.out Tryz.underlying36 rfl uG ?_)|(refine wpList_store_row rfl 36 _ _ rfl w.heap.size #[.int .i64 (k:Int),.string t,iv,pv,rv] rfl rfl _ _ P0.out uG rfl ?hone ?_))
  case hone=>exact S8.out.one _ rfl
  have hA6:(w5.setRow w.heap.size #[.int .i64 (k:Int),.string t,iv,pv,rv]).heap[w.heap.size]?=some (.cells #[.int .i64 (k:Int),.string t,iv,pv,rv] 36 (0,0)):=mZ _ _ _ _ _ _ P0.out
  have mj:af [w.heap.size] w5 (w5.setRow w.heap.size #[.int .i64 (k:Int),.string t,iv,pv,rv]):=⟨rfl,rfl,rfl,by simp,fun b hb hm=>jq _ _ _ _ (by simpa using hm)⟩
  refine gH (results_cell_row rfl _ _ _ _ _ _ _ rfl hA6 Tryz.underlying36 rfl uG) rfl ?_
  have hw4:=HKW4.out.size
  refine⟨t,iv,pv,rv,its,vj,vZ,rfl,(S8.out.mono hw4).stored (k:=0) (t:=ByteArray.empty) (i2:=.slice none 0 0) (p2:=.slice none 0 0) (r2:=.slice none 0 0) P0.out mj,HPH.out,?_⟩
  exact(HKW4.out.step AO.out (fun b hb=>.inr (by simp at hb;omega))).step mj (fun b hb=>.inr (by simp at hb;omega))
abbrev EK:=Bd 152 319 320 1 1 rfl (.inl ⟨rfl,rfl,rfl⟩)
abbrev EL:=Bd 163 325 326 2 2 rfl (.inr (.inl ⟨rfl,rfl,rfl⟩))
abbrev Be:=Bd 173 335 336 3 3 rfl (.inr (.inr (.inl ⟨rfl,rfl,rfl⟩)))
abbrev CR:=Bd 182 369 370 4 4 rfl (.inr (.inr (.inr (.inl ⟨rfl,rfl,rfl⟩))))
abbrev CQ:=Bd 193 395 396 5 5 rfl (.inr (.inr (.inr (.inr (⟨rfl,rfl,rfl⟩)))))
instance:LawfulBEq ByteArray where
 eq_of_beq {a b} h:=by
  cases a;cases b
  rename_i x y
  have:(x == y)=true:=h;rw[mH] at this;rw[this]
 rfl {a}:=by
  cases a
  rename_i x
  show(x == x)=true
  simp
def uf (x:ByteArray×Nat):MapEntry:={ key:=.string x.1,val:=.bool true,born:=x.2 }
def gT (F:List ByteArray):Obj:=.map (F.zipIdx.map uf).toArray F.length
def rD (F:List ByteArray) (k:ByteArray):List ByteArray:=if k∈F then F else F++[k]
theorem DD {F:List ByteArray} {k q:ByteArray}:q∈rD F k↔q∈F∨q=k:=by
 unfold rD;split
 ·rename_i h
  exact⟨.inl,fun h2=>h2.elim id (fun e=>e ▸ h)⟩
 ·simp
theorem tK (k:ByteArray):∀ (F:List ByteArray) (s i:Nat),Instr.findNow .string (.string k) ((F.zipIdx s).map uf) i=some (if k∈F then some (i+F.idxOf k,.bool true) else none)
 | [],s,i=>by simp[Instr.findNow]
 | q::F,s,i=>by
  have ih:=tK k F (s+1) (i+1);rw[List.zipIdx_cons,bP];unfold Instr.findNow
  by_cases h:k=q
  ·subst h;simp[uf,Instr.sameNow]
  ·have hb:(k == q)=false:=by simpa using h
   have hb2:(q == k)=false:=by simpa using fun e=>h e.symm
   simp only[uf,Instr.sameNow,hb];rw[ih];have hm:(k∈q::F)↔k∈F:=by simp[h]
   by_cases h2:k∈F
   ·rw[aQ h2,aQ (hm.2 h2),List.idxOf_cons,hb2];simp;omega
   ·rw[aJ h2,aJ (fun h3=>h2 (hm.1 h3))]
theorem E7 (w:World) (e:Bool) (k:ByteArray):(Instr.checkKey e 10000 9 (.string k)).run Tryz.prog w=.ok () w:=MapKept.run_checkKey (k:=.string k) Tryz.underlying9 (by simp[MapKept.IsKey]) e 9999
theorem Tm (w:World):(zeroValue 4).run Tryz.prog w=.ok (.bool false) w:=by kernel_rfl
theorem JP (w:World) (fb:Nat) (F:List ByteArray) (k:ByteArray) (h:w.heap[fb]?=some (gT F)):
  (Instr.lookup 150 (.map (some fb)) (.string k) false).run Tryz.prog w=.ok (.bool (decide (k∈F))) w:=by
 have hf:=tK k F 0 0;unfold gT at h;unfold Instr.lookup;simp only[j3 Tryz.underlying150,jA,Result.andThen,l7 h,Sem.run_pure,E7];rw[nS Tryz.underlying9 hf]
 by_cases hk:k∈F
 ·simp[hk,Result.andThen]
 ·simp[hk,Result.andThen,Tm]
theorem A3 (w:World) (fb:Nat) (F:List ByteArray) (k:ByteArray) (h:w.heap[fb]?=some (gT F)) (hk:k∉F):
  (Instr.mapUpdate 150 (.map (some fb)) (.string k) (.bool true)).run Tryz.prog w=.ok () { w with heap:=w.heap.setIfInBounds fb (gT (F++[k])) }:=by
 have hf:=tK k F 0 0;unfold gT at h;unfold Instr.mapUpdate;simp only[j3 Tryz.underlying150,jA,Result.andThen,l7 h,E7];rw[nS Tryz.underlying9 hf];simp only[aJ hk,rN _ h];unfold gT;simp[List.zipIdx_append,uf]
theorem GB (F:List ByteArray) (k:ByteArray) (hk:k∈F):(F.zipIdx.map uf)[F.idxOf k]?=some (uf (k,F.idxOf k)):=by have hl:=List.idxOf_lt_length_of_mem hk;rw[bK,td,ag hl,List.getElem_idxOf hl];simp
theorem DC (F:List ByteArray) (k:ByteArray) (hk:k∈F):(F.zipIdx.map uf).toArray.modify (F.idxOf k) (fun e=>{ e with key:=.string k,val:=.bool true })=(F.zipIdx.map uf).toArray:=by
 have hat:=GB F k hk
 apply jG
 intro i;rw[jQ]
 by_cases h:F.idxOf k=i
 ·subst h;rw[aQ rfl,bX,hat];rfl
 ·rw[aJ h]
theorem A5 (w:World) (fb:Nat) (F:List ByteArray) (k:ByteArray) (h:w.heap[fb]?=some (gT F)):
  (Instr.mapUpdate 150 (.map (some fb)) (.string k) (.bool true)).run Tryz.prog w=.ok () { w with heap:=w.heap.setIfInBounds fb (gT (rD F k)) }:=by
 by_cases hk:k∈F
 ·have hf:=tK k F 0 0;have hm:=DC F k hk;have hat:=GB F k hk;unfold rD;rw[aQ hk];unfold gT at h;unfold Instr.mapUpdate;simp only[j3 Tryz.underlying150,jA,Result.andThen,l7 h,E7];rw[nS Tryz.underlying9 hf];have hks:=MapKept.run_keyThatStays (P:=Tryz.prog) (d:=.string) (w:=w) (k:=.string k) (by simp[MapKept.IsKey])
  have hgd:(((F.zipIdx.map uf).toArray[F.idxOf k]?).map (fun x=>x.key)).getD (.string k)=.string k:=by rw[bX,hat];rfl
  simp only[aQ hk,jA,hgd,hks,Result.andThen,rN _ h,bD,hm];rfl
 ·unfold rD;rw[aJ hk];exact A3 w fb F k h hk
theorem A4 (w:World):(Instr.makeMap 150 none).run Tryz.prog w=.ok (.map (some w.heap.size)) (w.alloc (gT [])):=run_makeMap_plain w _
structure uk (bt bm fb:Nat) (tw:Bool) (F:List ByteArray) (w:World):Prop where
 t:w.heap[bt]?=some (.cells #[.bool tw] 4 (0,0))
 m:w.heap[bm]?=some (.cells #[.map (some fb)] 150 (0,0))
 f:w.heap[fb]?=some (gT F)
set_option maxRecDepth 100000 in
theorem TS (bt bm fb:Nat) (tw d t2:Bool) (F:List ByteArray) (s:ByteArray) (w:World) (h:uk bt bm fb tw F w) (hd:decide (s∈F)=d) (ht2:(tw || d)=t2):
  Calls Tryz.prog 92 #[.string s,dp bt,dp bm] w fun r w'=>r=.returned (.tuple #[])∧uk bt bm fb t2 (rD F s) w'∧af [bt,fb] w w':=by
 have c1:w.cell? ⟨bt,0,none⟩=some (.bool tw):=by rw[ah h.t];rfl
 have f1:w.frozen? ⟨bt,0,none⟩=false:=bC h.t 0;have c2:w.cell? ⟨bm,0,none⟩=some (.map (some fb)):=by rw[ah h.m];rfl
 have hl:(Instr.lookup 150 (.map (some fb)) (.string s) false).run Tryz.prog w=.ok (.bool d) w:=by rw[JP w fb F s h.f,hd]
 have hne1:bt≠bm:=fun e=>by have h1:=h.t;rw[e,h.m] at h1;simp at h1
 have hne2:fb≠bt:=fun e=>by have h1:=h.f;rw[e,h.t] at h1;unfold gT at h1;simp at h1
 have XX:fb≠bm:=fun e=>by have h1:=h.f;rw[e,h.m] at h1;unfold gT at h1;simp at h1
 obtain⟨W1,hW1⟩:∃ W1,W1=w.setCell ⟨bt,0,none⟩ (.bool t2):=⟨_,rfl⟩;have hf1:W1.heap[fb]?=some (gT F):=by rw[hW1];exact(aT _ hne2).trans h.f
 have hu:=A5 W1 fb F s hf1;rw[hW1] at hu;have ht1:W1.heap[bt]?=some (.cells #[.bool t2] 4 (0,0)):=by rw[hW1,aX h.t 0 _];rfl
 have hm1:W1.heap[bm]?=some (.cells #[.map (some fb)] 150 (0,0)):=by rw[hW1];exact(aT _ (fun e=>hne1 e.symm)).trans h.m
 have hk1:af [bt] w W1:=by rw[hW1];exact(af.refl _ w).setCell (p:=⟨bt,0,none⟩) (.inl (by simp)) _
 obtain⟨F2,hF2⟩:∃ F2,rD F s=F2:=⟨_,rfl⟩;rw[hF2] at hu ⊢;have HT1:=ae ht1;have Td:=ae hm1;have zv:=ae hf1;have rP:=ae hk1;have HW1:=ae hW1;clear h hd hf1 ht1 hm1 hk1 hW1 hF2;unfold dp
 rcases tw with _|_<;>rcases d with _|_<;>obtain rfl:t2=_:=ht2.symm
 all_goals
  simp only[Bool.or_true,Bool.or_false,Bool.true_or,Bool.false_or] at *;go_enter Tryz.func92,Tryz.ntmps92
  go_wp2_with fail
  go_end0
  rw[←HW1.out];have hfl:=hlt zv.out;refine⟨rfl,⟨?_,?_,?_⟩,?_⟩
  ·show(W1.heap.setIfInBounds fb _)[bt]?=_
   rw[iT hne2];exact HT1.out
  ·show(W1.heap.setIfInBounds fb _)[bm]?=_
   rw[iT XX];exact Td.out
  ·show(W1.heap.setIfInBounds fb _)[fb]?=_
   rw[Array.getElem?_setIfInBounds_self_of_lt hfl]
  ·refine⟨rP.out.os,rfl,rP.out.output,?_,fun b hb hm=>?_⟩
   ·show w.heap.size≤(W1.heap.setIfInBounds fb _).size
    rw[qi];exact rP.out.size
   ·show(W1.heap.setIfInBounds fb _)[b]?=_
    rw[iT (fun e=>hm (by rw[e];simp))];exact rP.out.block b hb (fun h=>hm (by simp at h;simp[h]))
structure kQ (bt bm fb:Nat) (Q:Prop) (nm:List ByteArray) (w:World):Prop where
 ex:∃ tw F,uk bt bm fb tw F w∧(tw=true↔Q)∧∀ s,s∈F↔s∈nm
theorem kQ.of {bt bm fb:Nat} {Q Q':Prop} {nm:List ByteArray} {w:World} (h:kQ bt bm fb Q nm w) (hq:Q↔Q'):kQ bt bm fb Q' nm w:=by obtain⟨tw,F,a,b,c⟩:=h.ex;exact⟨tw,F,a,b.trans hq,c⟩
theorem Ql (bt bm fb:Nat) (Q:Prop) (nm:List ByteArray) (s:ByteArray) (w:World) (h:kQ bt bm fb Q nm w):
  Calls Tryz.prog 92 #[.string s,dp bt,dp bm] w fun r w'=>r=.returned (.tuple #[])∧kQ bt bm fb (Q∨s∈nm) (nm++[s]) w'∧af [bt,fb] w w':=by
 obtain⟨tw,F,a,b,c⟩:=h.ex;refine(TS bt bm fb tw _ _ F s w a rfl rfl).mono ?_;rintro r w' ⟨h1,h2,h3⟩;refine⟨h1,⟨_,_,h2,?_,fun x=>?_⟩,h3⟩
 ·rw[jL,dr,b,c]
 ·rw[DD,c,bj,ij]
theorem vR (n pb g c:Nat) (kd:Int) (ks:List Int) (w:World) (hc:w.cell? ⟨pb,0,none⟩=some (.int .i64 kd)) (hs:∀ (i:Nat) (x:Int),ks[i]?=some x→w.cell? ⟨g,i,none⟩=some (.int .i64 x)) (hl:ks.length≤100) (bb:Bool) (h:bb=true↔kd∈ks∨n=0):
  Calls Tryz.prog 91 #[.int .i64 (n:Int),.slice (some ⟨g,0,none⟩) ks.length c,dp pb] w fun r w'=>r=.returned (.bool bb)∧w'=w:=by
 have HS:=ae hs;have HH:=ae h;obtain⟨m,hm⟩:∃ m,ks.length=m:=⟨_,rfl⟩;rw[hm] at hl ⊢;have HM:=ae hm;clear hs h hm;unfold dp;go_enter Tryz.func91,Tryz.ntmps91
 go_wp2_with fail
 go_loop [10,7] (fun i _=>∃ k:Nat,i=.int .i64 (k:Int)∧k≤m∧Hid (∀ j x,j<k→ks[j]?=some x→x≠kd)) (fun i _=>m-(intOf i).toNat)
 case atStart=>exact⟨0,rfl,bz _,ae (fun j x hj=>by omega)⟩
 case round=>
  obtain⟨k,rfl,hk,HN⟩:=hrel
  by_cases hlt:k<m
  ·obtain⟨x,hx⟩:∃ x,ks[k]?=some x:=⟨_,ag (by rw[HM.out];exact hlt)⟩;have hcx:=HS.out k x hx;have hkn:(k:Int)<(m:Int):=by omega
   have HX:=ae hx;clear hx
   by_cases he:x=kd
   ·subst he;obtain rfl:bb=true:=HH.out.2 (.inl (aB HX.out));go_wp2_with fail
    go_ret;exact⟨rfl,rfl⟩
   ·have he2:¬(x=kd):=he;go_wp2_with fail
    go_round
    case rel=>
     refine⟨k+1,by go_num,by omega,ae (fun j y hj hy=>?_)⟩
     by_cases hjk:j=k
     ·subst hjk;rw[HX.out] at hy;simp at hy;rw[←hy];exact he
     ·exact HN.out j y (by omega) hy
    case measure=>simp[intOf];omega
  ·obtain rfl:k=m:=by omega
   have hno:kd∉ks:=fun h=>by obtain⟨i,hi⟩:=ir.1 h;exact absurd rfl (HN.out i kd (by have:=(au.1 hi).1;have:=HM.out;omega) hi)
   by_cases hn0:n=0
   ·obtain rfl:bb=true:=HH.out.2 (.inr hn0);subst hn0;go_wp2_with fail
    go_ret;exact⟨rfl,rfl⟩
   ·obtain rfl:bb=false:=by
     cases bb
     ·rfl
     ·rcases HH.out.1 rfl with h|h
      ·exact absurd h hno
      ·exact absurd h hn0
    have hni:((n:Int) == 0)=false:=by simp;omega
    have wS:=ae hni;clear hni;go_wp2_with fail
    go_ret;exact⟨by rw[←wS.out];rfl,rfl⟩
theorem gR {P:Program} {w:World} {a:Addr} {m:Mode} (k:FloatKind) (n:Nat):(store a (.float k n) m).run P w=stored P w a (.float k n) m:=run_store P w a _ m rfl
attribute [local go_sem] gR
def gU (k:Int) (key text:ByteArray):Words:=if k=1 then [iS 1,key,text] else [iS k,key]
theorem IK (k:Int) (key text:ByteArray):∃ rest,gU k key text=iS k::key::rest:=by
 unfold gU;split
 ·rename_i h;subst h;exact⟨_,rfl⟩
 ·exact⟨_,rfl⟩
theorem oI (k:Int):(iS k).size≤5:=by
 unfold iS
 repeat' split
 all_goals decide
theorem iQ {α β:Type} (f:α→β) {l:List α} {k:Nat} {x:α} (h:l[k]?=some x):(l.take (k+1)).map f=(l.take k).map f++[f x]:=by obtain⟨hl,e⟩:=au.1 h;rw[fh hl,aZ,e];rfl
def YZ (q:cG) (vi vp vr:Value):Obj:=.cells #[.int .i64 q.kind,.string q.text,vi,vp,vr] 36
structure zo (B:Nat) (w:World) (F0:List Nat) (wb:Nat) (p8:List Words) (k:Int) (key text:ByteArray) (done:List Words) (wr:World):Prop where
 r:∃ v pre e n,zm B w F0 wb p8 (iS k) key (gU k key text) done wr v pre e n
theorem zo.nx {B:Nat} {w:World} {F0:List Nat} {wb:Nat} {p8:List Words} {k:Int} {key text:ByteArray} {done:List Words} {wr:World} (h:zo B w F0 wb p8 k key text done wr):af F0 w wr:=by obtain⟨_,_,_,_,h⟩:=h.r;exact h.nx.k
set_option maxRecDepth 8000 in
theorem P3 (pr:Nat→ByteArray) (tx:Int→ByteArray) (B0 B wb:Nat) (v:Value) (es:List EF) (n:Nat) (key:ByteArray) (q:cG) (vi vp vr:Value) (w:World) (wK:uq pr tx B0 w) (hB:B0≤B) (h:jl B w wb v es n)
  (hkd:1≤q.kind∧q.kind≤5) (hi:eh b9 1 w vi q.items) (hp:eh gJ 2 w vp q.bL) (hr:eh dN 2 w vr q.bI) (oi:Off vi q.items.length (eP wb v es)) (op:Off vp q.bL.length (eP wb v es)) (Z7:Off vr q.bI.length (eP wb v es))
  (hg:∀ g∈eV pr q,zp g) (hkey:key.size≤1048576) (htx:q.text.size≤1048576) (hl:es.length+(eV pr q).length≤134217728) (hx:∀ x∈q.bI,x.2<18446744073709551616):
  Calls Tryz.prog 19 #[dp wb,.string key,.agg #[.int .i64 q.kind,.string q.text,vi,vp,vr]] w fun r w'=>r=.returned (.tuple #[])∧
   ∃ v' es' n',jl B w' wb v' es' n'∧gX w (eP wb v es) w' (eP wb v' es')∧es'.map (fun x=>x.ws)=es.map (fun x=>x.ws)++writes (iS q.kind) key [] (gU q.kind key q.text) 0 (eV pr q):=by
 obtain⟨w1,hw1⟩:∃ w1,w1=w.alloc (YZ q vi vp vr):=⟨_,rfl⟩;have k1:af [] w w1:=by rw[hw1];exact(af.refl _ w).alloc _
 have US:w1.heap[w.heap.size]?=some (.cells #[.int .i64 q.kind,.string q.text,vi,vp,vr] 36 (0,0)):=by rw[hw1];exact aG w _
 have hbn:w.heap.size∉eP wb v es:=fun hm=>absurd (h.lt _ hm).2 (kT _)
 have H1:=ae (h.aN k1);have HI:=ae (hi.aN k1);have HP:=ae (hp.aN k1);have HR:=ae (hr.aN k1);have OI:=ae oi;have OP:=ae op;have OR:=ae Z7;have HG:=ae hg;have HL:=ae hl;have HX:=ae hx;have rP:=ae k1;have qM:=ae (wK.keeps k1 (by simp));have HBN:=ae hbn;have G5:=ae US;have Jb:=ae hB;have HEN:=ae (show es.length≤1073741824 by omega);have hgl:=mE pr q;have IG:q.items.length≤134217728:=by omega
 have IF:q.bL.length≤134217728:=by omega
 have IE:q.bI.length≤134217728:=by omega
 clear hgl;have hnk:dz [iS q.kind,key]≤1100000:=by have:=oI q.kind;simp[dz];omega
 have MU:=ae hnk;have HKEY:=ae hkey;have GX:=ae htx;have Dn:w.alloc (.cells #[.int .i64 q.kind,.string q.text,vi,vp,vr] 36)=w1:=by rw[hw1];rfl
 have MJ:=ae (fun(ws:Words) (hw:ws.length≤1048576)=>AE B wb v es n ws w1 (h.aN k1) (by omega) hw)
 have HST:Hid (∀ (w2:World) (v2:Value) (g cap:Nat),jl B w2 wb v2 (es++[⟨g,cap,gU q.kind key q.text⟩]) 0→gX w1 (eP wb v es) w2 (eP wb v2 (es++[⟨g,cap,gU q.kind key q.text⟩]))→zo B w1 (eP wb v es) wb (es.map (fun x=>x.ws)) q.kind key q.text [] w2):=ae (fun w2 v2 g cap i2 x2=>by
  obtain⟨rest,hrest⟩:=IK q.kind key q.text;refine⟨v2,es,⟨g,cap,gU q.kind key q.text⟩,0,⟨i2,x2,fun r=>rfl,⟨rest,hrest⟩,by omega,by simp,?_,?_⟩⟩
  ·have:=HKEY.out;have:=GX.out;have:=oI q.kind;have:=oI 1;simp only;unfold gU
   split<;>simp[dz]<;>omega
  ·simp only;unfold gU
   split<;>simp)
 clear h hi hp hr oi op Z7 hg hl hx k1 wK hbn US hB hnk hkey htx hw1;obtain⟨kd,RS⟩:∃ kd,kd=q.kind:=⟨_,rfl⟩;obtain⟨tt,XJ⟩:∃ tt,tt=q.text:=⟨_,rfl⟩;rw[←RS] at hkd Dn G5 MU HST ⊢;rw[←XJ] at Dn G5 HST ⊢;have qg:=ae RS;have HTT:=ae XJ;clear RS XJ;have b0:w1.cell? ⟨w.heap.size,0,none⟩=some (.int .i64 kd):=by rw[ah G5.out];rfl
 have b1:w1.cell? ⟨w.heap.size,1,none⟩=some (.string tt):=by rw[ah G5.out];rfl
 unfold dp;go_enter Tryz.func19,Tryz.ntmps19
 go_upto_block 0 with(fail)
 go_cut [] (fun wx=>Hid (zo B w1 (eP wb v es) wb (es.map (fun x=>x.ws)) kd key tt [] wx))
 case first=>as_aux_lemma=>
  obtain⟨q1,q2⟩:=hkd
  rcases(by omega:kd=1∨kd=2∨kd=3∨kd=4∨kd=5) with rfl|rfl|rfl|rfl|rfl
  ·have hb:Calls Tryz.prog 21 #[.pointer (some ⟨wb,0,none⟩),.slice (some ⟨w1.heap.size,0,none⟩) 3 3] (w1.alloc (.cells #[.string ⟨#[83,69,84]⟩,.string key,.string tt] 9)) _:=MJ.out (gU 1 key tt) (by simp[gU]);have HB:=ae hb;clear hb;go_wp2_with fail
   refine HB.out.mono ?_;rintro r w2 ⟨rfl,v2,i2,x2⟩;have I:=ae (HST.out w2 v2 _ _ i2 x2);clear i2 x2;go_wp2_with fail
   go_meet;exact I
  ·have hb:Calls Tryz.prog 21 #[.pointer (some ⟨wb,0,none⟩),.slice (some ⟨w1.heap.size,0,none⟩) 2 2] (w1.alloc (.cells #[.string ⟨#[82,80,85,83,72]⟩,.string key] 9)) _:=MJ.out (gU 2 key tt) (by simp[gU]);have HB:=ae hb;clear hb b1;go_wp2_with fail
   refine HB.out.mono ?_;rintro r w2 ⟨rfl,v2,i2,x2⟩;have I:=ae (HST.out w2 v2 _ _ i2 x2);clear i2 x2;go_wp2_with fail
   go_meet;exact I
  ·have hb:Calls Tryz.prog 21 #[.pointer (some ⟨wb,0,none⟩),.slice (some ⟨w1.heap.size,0,none⟩) 2 2] (w1.alloc (.cells #[.string ⟨#[72,83,69,84]⟩,.string key] 9)) _:=MJ.out (gU 3 key tt) (by simp[gU]);have HB:=ae hb;clear hb b1;go_wp2_with fail
   refine HB.out.mono ?_;rintro r w2 ⟨rfl,v2,i2,x2⟩;have I:=ae (HST.out w2 v2 _ _ i2 x2);clear i2 x2;go_wp2_with fail
   go_meet;exact I
  ·have hb:Calls Tryz.prog 21 #[.pointer (some ⟨wb,0,none⟩),.slice (some ⟨w1.heap.size,0,none⟩) 2 2] (w1.alloc (.cells #[.string ⟨#[83,65,68,68]⟩,.string key] 9)) _:=MJ.out (gU 4 key tt) (by simp[gU]);have HB:=ae hb;clear hb b1;go_wp2_with fail
   refine HB.out.mono ?_;rintro r w2 ⟨rfl,v2,i2,x2⟩;have I:=ae (HST.out w2 v2 _ _ i2 x2);clear i2 x2;go_wp2_with fail
   go_meet;exact I
  ·have hb:Calls Tryz.prog 21 #[.pointer (some ⟨wb,0,none⟩),.slice (some ⟨w1.heap.size,0,none⟩) 2 2] (w1.alloc (.cells #[.string ⟨#[90,65,68,68]⟩,.string key] 9)) _:=MJ.out (gU 5 key tt) (by simp[gU]);have HB:=ae hb;clear hb b1;go_wp2_with fail
   refine HB.out.mono ?_;rintro r w2 ⟨rfl,v2,i2,x2⟩;have I:=ae (HST.out w2 v2 _ _ i2 x2);clear i2 x2;go_wp2_with fail
   go_meet;exact I
 case rest=>
  have HC:Hid (zo B w1 (eP wb v es) wb (es.map (fun x=>x.ws)) kd key tt [] wc):=hcut;have Th:=ae (fun(W:World) (hk:af (eP wb v es) w1 W)=>hk.get G5.out HBN.out);clear hcut b0 b1 Dn;have e2:wc.cell? ⟨w.heap.size,2,none⟩=some vi:=by rw[ah (Th.out _ HC.out.nx)];rfl
  obtain⟨ia,nY,hiv,_,_,_,hic⟩:=HI.out.texts;have ZI:=ae hic;have HIV:=ae hiv;rw[hiv] at e2;clear hiv hic;generalize hin:q.items.length=ni at *
  have Wr:=ae hin;clear hin;go_wp2_with fail
  go_loopw [47,7] (fun i _ wr=>∃ k:Nat,i=.int .i64 (k:Int)∧k≤ni∧Hid (zo B w1 (eP wb v es) wb (es.map (fun x=>x.ws)) kd key tt ((q.items.take k).map (fun x=>[x])) wr)) (fun i _ _=>ni-(intOf i).toNat)
  case atStart=>exact⟨0,rfl,bz _,HC⟩
  case round=>
   obtain⟨k,rfl,hk,HV⟩:=hrel;clear e2
   by_cases hlt:k<ni
   ·obtain⟨g,off,rfl,hc⟩:=ZI.out (by omega);obtain⟨x,hx⟩:∃ x,q.items[k]?=some x:=⟨_,ag (by rw[Wr.out];exact hlt)⟩;have hcx:=eM HV.out.nx (hc k x hx) (OI.out (by omega) g (by rw[HIV.out];rfl));obtain⟨v2,nW,e2,n2,hv⟩:=HV.out.r;have zT:=ae (GR [x] hv (HG.out _ (by unfold eV;exact bh _ (bh _ (aV.2 ⟨x,aB hx,rfl⟩)))) MU.out (by have:=HL.out;rw[mE] at this;simp;omega));rw[←iQ (fun x=>[x]) hx] at zT;have hkn:(k:Int)<(ni:Int):=by omega
    clear hc hx hv;go_wp2_with fail
    refine zT.out.mono ?_;rintro r w3 ⟨rfl,v3,J7,e3,n3,hv3⟩;have I:Hid (zo B w1 (eP wb v es) wb (es.map (fun x=>x.ws)) kd key tt ((q.items.take (k+1)).map (fun x=>[x])) w3):=ae ⟨v3,J7,e3,n3,hv3⟩;clear hv3;go_wp2_with fail
    go_roundw
    case rel=>exact⟨k+1,by go_num,by omega,I⟩
    case measure=>simp[intOf];omega
   ·obtain rfl:k=ni:=by omega
    rw[show q.items.take k=q.items from aE (by rw[Wr.out];exact aq _)] at HV;have e3:wr.cell? ⟨w.heap.size,3,none⟩=some vp:=by rw[ah (Th.out _ HV.out.nx)];rfl
    obtain⟨pa,pj,hpv,_,_,_,hpc⟩:=HP.out.bL;have Zy:=ae hpc;have HPV:=ae hpv;rw[hpv] at e3;clear hpv hpc;generalize hpn:q.bL.length=np at *
    have PO:=ae hpn;clear hpn;go_wp2_with fail
    go_loopw [59,9] (fun i _ wr=>∃ k:Nat,i=.int .i64 (k:Int)∧k≤np∧Hid (zo B w1 (eP wb v es) wb (es.map (fun x=>x.ws)) kd key tt (q.items.map (fun x=>[x])++(q.bL.take k).map (fun x=>[x.1,x.2])) wr)) (fun i _ _=>np-(intOf i).toNat)
    case atStart=>exact⟨0,rfl,bz _,by rw[show(q.bL.take 0).map (fun x=>[x.1,x.2])=[] from rfl,cZ];exact HV⟩
    case round=>
     obtain⟨k2,rfl,hk2,sb⟩:=hrel;clear e3 HV
     by_cases hlt:k2<np
     ·obtain⟨g,off,rfl,hc⟩:=Zy.out (by omega);obtain⟨x,hx⟩:∃ x,q.bL[k2]?=some x:=⟨_,ag (by rw[PO.out];exact hlt)⟩;have hcx:=eM sb.out.nx (hc k2 x hx).1 (OP.out (by omega) g (by rw[HPV.out];rfl));have hcy:=eM sb.out.nx (hc k2 x hx).2 (OP.out (by omega) g (by rw[HPV.out];rfl));have hkn:(k2:Int)<(np:Int):=by omega
      obtain⟨v2,nW,e2,n2,hv⟩:=sb.out.r;have zT:=ae (fun(W:World) (hk:af [] wr W)=>GR [x.1,x.2] (hv.aN hk) (HG.out _ (by unfold eV;exact bh _ (bA _ (aV.2 ⟨x,aB hx,rfl⟩)))) MU.out (by have:=HL.out;rw[mE] at this;simp;omega));rw[aD,←iQ (fun x=>[x.1,x.2]) hx] at zT;have ha:=zT.out (wr.alloc (.cells #[.string x.1,.string x.2] 51)) ((af.refl _ _).alloc _);rw[de] at ha;have HA:=ae (show Calls Tryz.prog 64 #[.pointer (some ⟨wb,0,none⟩),.slice (some ⟨wr.heap.size+1,0,none⟩) 2 2] ((wr.alloc (.cells #[.string x.1,.string x.2] 51)).alloc (.cells #[.string x.1,.string x.2] 9)) _ from ha);clear hc hx hv ha zT;go_wp2_with fail
      refine HA.out.mono ?_;rintro r w3 ⟨rfl,v3,J7,e3,n3,hv3⟩;have I:Hid (zo B w1 (eP wb v es) wb (es.map (fun x=>x.ws)) kd key tt (q.items.map (fun x=>[x])++(q.bL.take (k2+1)).map (fun x=>[x.1,x.2])) w3):=ae ⟨v3,J7,e3,n3,hv3⟩;clear hv3;go_wp2_with fail
      go_roundw
      case rel=>exact⟨k2+1,by go_num,by omega,I⟩
      case measure=>simp[intOf];omega
     ·obtain rfl:k2=np:=by omega
      rw[show q.bL.take k2=q.bL from aE (by rw[PO.out];exact aq _)] at sb;have e4:wr.cell? ⟨w.heap.size,4,none⟩=some vr:=by rw[ah (Th.out _ sb.out.nx)];rfl
      obtain⟨ra,qU,Lh,_,_,_,hrc⟩:=HR.out.lN;have Zw:=ae hrc;have HRV:=ae Lh;rw[Lh] at e4;clear Lh hrc;generalize hrn:q.bI.length=nr at *
      have S4:=ae hrn;clear hrn;go_wp2_with fail
      go_loopw [74,11] (fun i _ wr=>∃ k:Nat,i=.int .i64 (k:Int)∧k≤nr∧Hid (zo B w1 (eP wb v es) wb (es.map (fun x=>x.ws)) kd key tt (q.items.map (fun x=>[x])++q.bL.map (fun x=>[x.1,x.2])++(q.bI.take k).map (fun x=>[pr x.2,x.1])) wr)) (fun i _ _=>nr-(intOf i).toNat)
      case atStart=>exact⟨0,rfl,bz _,by rw[show(q.bI.take 0).map (fun x=>[pr x.2,x.1])=[] from rfl,cZ];exact sb⟩
      case round=>
       obtain⟨k3,rfl,hk3,Tz⟩:=hrel;clear e4 sb
       by_cases hlt:k3<nr
       ·obtain⟨g,off,rfl,hc⟩:=Zw.out (by omega);obtain⟨x,hx⟩:∃ x,q.bI[k3]?=some x:=⟨_,ag (by rw[S4.out];exact hlt)⟩;have hcx:=eM Tz.out.nx (hc k3 x hx).1 (OR.out (by omega) g (by rw[HRV.out];rfl));have hcy:=eM Tz.out.nx (hc k3 x hx).2 (OR.out (by omega) g (by rw[HRV.out];rfl));have hkn:(k3:Int)<(nr:Int):=by omega
        obtain⟨v2,nW,e2,n2,hv⟩:=Tz.out.r;have hxb:=HX.out x (aB hx);have zT:=ae (fun(b:Nat) (W:World) (hk:af [] wr W) (hb:W.heap[b]?=some (.cells #[.string (pr x.2),.string x.1] 9 (0,0))) (hfr:wr.heap.size≤b)=>SJ [pr x.2,x.1] hv (HG.out _ (by unfold eV;exact bA _ (aV.2 ⟨x,aB hx,rfl⟩))) MU.out (by have:=HL.out;rw[mE] at this;simp;omega) b hk hb hfr);rw[aD,←iQ (fun x=>[pr x.2,x.1]) hx] at zT;have Vz:=ae (fun(W:World) (hk:af [] wr W)=>(qM.out.keeps (Tz.out.nx.trans (hk.mono (by simp))) (fun b hb=>aF Jb.out (H1.out.lt b hb).1)).print W (Below.refl _ _) x.2 hxb);obtain⟨xm,xs⟩:=x;simp only at hcx hcy zT Vz;clear hc hx hv;go_wp2_with fail
        have hh:(wr.alloc (.cells #[.string xm,.float .f64 xs] 54)).heap[wr.heap.size]?=some (.cells #[.string xm,.float .f64 xs] 54 (0,0)):=aG wr _;have hc0:(wr.alloc (.cells #[.string xm,.float .f64 xs] 54)).cell? ⟨wr.heap.size,0,none⟩=some (.string xm):=by rw[ah hh];rfl
        have hc1:(wr.alloc (.cells #[.string xm,.float .f64 xs] 54)).cell? ⟨wr.heap.size,1,none⟩=some (.float .f64 xs):=by rw[ah hh];rfl
        have kW:=ae ((af.refl [] wr).alloc (.cells #[.string xm,.float .f64 xs] 54));have hsz:wr.heap.size<(wr.alloc (.cells #[.string xm,.float .f64 xs] 54)).heap.size:=by simp
        have tj:=ae hsz;clear hh hsz hcx hcy;generalize wr.alloc (.cells #[.string xm,.float .f64 xs] 54)=W at *
        go_region_held3 (fun w'=>w'.cell? ⟨wr.heap.size,0,none⟩=some (.string xm)∧w'.cell? ⟨wr.heap.size,1,none⟩=some (.float .f64 xs)) (first|exact⟨hc0,hc1⟩|(go_keep;done)|exact⟨f0,f1⟩|exact⟨g0,g1⟩) ((first|(go_at_call 65;refine(Vz.out _ kW.out.drew).mono ?_;rintro r w5 ⟨rfl,k5⟩;have g0:=ak k5 (show W.drew.cell? _=_ from hc0);have g1:=ak k5 (show W.drew.cell? _=_ from hc1);have K5:Hid (af [] wr w5):=ae (kW.out.drew.trans k5);have HW5:Hid (wr.heap.size<w5.heap.size):=ae (aP tj.out k5.size);clear k5)|(go_at_call 64;refine(zT.out w5.heap.size _ (by first|exact K5.out.alloc _|exact(K5.out.alloc _).drew) (aG w5 _) K5.out.size).mono ?_;rintro r w6 ⟨rfl,⟨v3,J7,e3,n3,hv3⟩,UL⟩;have hb6:w6.heap[wr.heap.size]?=w5.heap[wr.heap.size]?:=(UL _ (aq _) (by have:=K5.out.size;have:=HW5.out;simp;omega)).trans (Below.heap_alloc _ _ _ (by have:=HW5.out;omega));have f0:=(ez (a:=⟨wr.heap.size,0,none⟩) hb6).trans g0;have f1:=(ez (a:=⟨wr.heap.size,1,none⟩) hb6).trans g1;clear UL hb6;have I:Hid (zo B w1 (eP wb v es) wb (es.map (fun x=>x.ws)) kd key tt (q.items.map (fun x=>[x])++q.bL.map (fun x=>[x.1,x.2])++(q.bI.take (k3+1)).map (fun x=>[pr x.2,x.1])) w6):=ae ⟨v3,J7,e3,n3,hv3⟩;clear hv3)))
        clear f0 f1 g0 g1 hc0 hc1;go_wp2_with fail
        go_roundw
        case rel=>exact⟨k3+1,by go_num,by omega,I⟩
        case measure=>simp[intOf];omega
       ·obtain rfl:k3=nr:=by omega
        rw[show q.bI.take k3=q.bI from aE (by rw[S4.out];exact aq _)] at Tz;go_wp2_with fail
        go_end0
        obtain⟨v2,nW,e2,n2,hv⟩:=Tz.out.r;have hw:=hv.wr [];rw[cZ] at hw;refine⟨rfl,v2,nW++[e2],n2,hv.i,(gX.of0 _ rP.out).trans hv.nx,?_⟩;rw[←mT]
        show(nW++[e2]).map (fun x=>x.ws)=writes (iS kd) key (es.map (fun x=>x.ws)) (gU kd key tt) 0 (q.items.map (fun x=>[x])++q.bL.map (fun x=>[x.1,x.2])++q.bI.map (fun x=>[pr x.2,x.1]))
        rw[hw,writes.eq_def];simp
end jw
namespace fl
theorem aj {p:Prop} (h:p):Hid p:=h
end fl
end Go.Proofs.YthpdlidbaojlbaaGreatDoor
