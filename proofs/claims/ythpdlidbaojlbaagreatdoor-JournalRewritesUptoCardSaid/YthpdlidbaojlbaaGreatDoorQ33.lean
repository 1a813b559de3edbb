/- rank: order; the binary search for a place. -/
import Derived.Test.YthpdlidbaojlbaaGreatDoorQ32
import Derived.Test.YthpdlidbaojlbaaGreatDoorShelf
set_option linter.unusedVariables false
set_option linter.unusedSimpArgs false
set_option maxHeartbeats 4000000
open Go.ChangeShapes Go.WideShapes Go.RowKit
namespace Go.Proofs.YthpdlidbaojlbaaGreatDoor
namespace jw
open ks (af ae hlt ah bC alloc_old aG aX aT dp)
open rk (Fl fk gN lbR j9)
attribute [local go_sem] gR
theorem LB (l:List (ByteArray×Nat)) (j:Nat) (y:ByteArray×Nat) (hj:j<l.length):((l.flatMap dN).set (j*2) (.string y.1)).set (j*2+1) (.float .f64 y.2)=(l.set j y).flatMap dN:=by
 apply dG
 intro i;have hl:(l.flatMap dN).length=l.length*2:=iF (k:=2) (fun _=>rfl) l;have hl2:((l.set j y).flatMap dN).length=l.length*2:=by rw[iF (k:=2) (fun _=>rfl)];simp
 by_cases hi:i<l.length*2
 ·obtain⟨x,hx⟩:∃ x,l[i / 2]?=some x:=⟨_,ag (by omega)⟩;have e1:=pK (enc:=dN) (k:=2) (fun _=>rfl) l (i / 2) (i % 2) x hx (by omega)
  have hy:(l.set j y)[i / 2]?=some (if j=i / 2 then y else x):=by
   rw[dx,hx]
   by_cases h:j=i / 2
   ·rw[aQ h,aQ h,aQ (by omega)]
   ·rw[aJ h,aJ h]
  have e2:=pK (enc:=dN) (k:=2) (fun _=>rfl) (l.set j y) (i / 2) (i % 2) _ hy (by omega);rw[show i / 2*2+i % 2=i by omega] at e1 e2;rw[e2,dx,dx,e1];simp only[dO,hl]
  rcases(by omega:i % 2=0∨i % 2=1) with h2|h2
  ·rw[aJ (by omega)]
   by_cases h:j=i / 2
   ·rw[aQ (by omega),aQ (by omega),aQ h,h2];rfl
   ·rw[aJ (by omega),aJ h]
  ·by_cases h:j=i / 2
   ·rw[aQ (by omega),aQ (by omega),aQ h,h2];rfl
   ·rw[aJ (by omega),aJ (by omega),aJ h]
 ·rw[bR (by simp[hl];omega),bR (by omega)]
theorem Ki {B:Nat} {w:World} {g n cap:Nat} {xs:List (ByteArray×Nat)} (h:bF dN 2 54 B w (.slice (some ⟨g,0,none⟩) n cap) xs) (i:Nat) (y:ByteArray×Nat) (hi:i<xs.length):
  bF dN 2 54 B ((w.setCell ⟨g,i*2,none⟩ (.string y.1)).setCell ⟨g,i*2+1,none⟩ (.float .f64 y.2)) (.slice (some ⟨g,0,none⟩) n cap) (xs.set i y):=by
 obtain⟨a,c,e1,_⟩:=h.form
 injection e1 with e1 e2 e3
 subst e2;have h1:w.ownsRow B 54 2 (.slice (some ⟨g,0,none⟩) xs.length cap) xs.length (xs.flatMap dN):=h;have h2:=((h1.stored (i*2) (.string y.1)).1.stored (i*2+1) (.float .f64 y.2)).1;rw[LB xs i y hi] at h2;unfold bF;rw[dO];exact h2
theorem Iu (B:Nat) (W:World) (n:Nat) (hn:n≤2097152) (hB:B≤W.heap.size):bF dN 2 54 B (W.alloc (.cells (madeCells (Value.agg #[.string ⟨#[]⟩,.float .f64 0]).cells (n*2)) 54)) (.slice (some ⟨W.heap.size,0,none⟩) n n) (List.replicate n (ByteArray.empty,0)):=by
 have:=bF.vo (enc:=dN) (k:=2) (l:=List.replicate n (ByteArray.empty,0)) (cap:=n) (fun _=>rfl) (aG W (.cells (madeCells (Value.agg #[.string ⟨#[]⟩,.float .f64 0]).cells (n*2)) 54)) (by simp) (by unfold maxLen;omega) (by simp[madeCells]) (by
  rw[←EU];refine aE ?_
  simp[madeCells]) hB
 simpa using this
set_option maxRecDepth 8000 in
theorem J3 (B rb:Nat) (av:Value) (ps S:List (ByteArray×Nat)) (w:World) (h:RkD B w rb av ps) (hn:ps.length≤1048576) (hnd:(ps.map (fun x=>x.1)).Nodup) (hf:∀ y∈ps,Fl y.2) (hS:j9 S) (hp:S.Perm ps):
  Calls Tryz.prog 44 #[dp rb,.int .i64 0,.int .i64 (ps.length:Int)] w fun r w'=>∃ v,r=.returned v∧bF dN 2 54 w.heap.size w' v S∧af [] w w':=by
 have FF:=ae (fun i v W (hk:af [] w W) hv=>Nu B rb av ps i v W (h.aN hk) hn hnd hf hv);have hr:=h.row.row mF.n;have c0:=h.c0;obtain⟨al,cap,hv2,_,_,_,hc⟩:=hr.lN;subst hv2;obtain⟨n,hnn⟩:∃ n,ps.length=n:=⟨_,rfl⟩;rw[hnn] at c0 hc hn ⊢;have HC:=ae hc;have HN:=ae hnn;have HS:=ae hS;have HP:=ae hp;have Yx:S.length=n:=by rw[←hnn];exact hp.length_eq
 have MQ:=ae Yx;have hmk:=fun W=>yt W n (by omega)
 have pq:af [] w (w.alloc (.cells (madeCells (Value.agg #[.string ⟨#[]⟩,.float .f64 0]).cells (n*2)) 54)):=(af.refl _ w).alloc _
 have AM:Hid (bF dN 2 54 w.heap.size (w.alloc (.cells (madeCells (Value.agg #[.string ⟨#[]⟩,.float .f64 0]).cells (n*2)) 54)) (.slice (some ⟨w.heap.size,0,none⟩) n n) (pD S (ps.take 0))∧af [] w (w.alloc (.cells (madeCells (Value.agg #[.string ⟨#[]⟩,.float .f64 0]).cells (n*2)) 54))):=ae ⟨by
  rw[List.take_zero,Hv,Yx]
  exact Iu _ w n (by omega) (aq _),pq⟩
 have hcw:=ak pq c0;obtain⟨w0,hw0⟩:∃ w0,w.alloc (.cells (madeCells (Value.agg #[.string ⟨#[]⟩,.float .f64 0]).cells (n*2)) 54)=w0:=⟨_,rfl⟩;rw[hw0] at AM hcw;have X5:=hmk w;rw[hw0] at X5;have HW0:=ae hw0;unfold dp at *;clear h hr hc hnn hnd hf hS hp Yx pq hmk hw0;go_enter Tryz.func44,Tryz.ntmps44
 go_wp2_with fail
 go_loopw [28,9,10,11] (fun k _ _ _ wr=>∃ m:Nat,k=.int .i64 (m:Int)∧m≤n∧Hid (bF dN 2 54 w.heap.size wr (.slice (some ⟨w.heap.size,0,none⟩) n n) (pD S (ps.take m))∧af [] w wr)) (fun k _ _ _ _=>n-(intOf k).toNat)
 case atStart=>exact⟨0,rfl,bz _,AM⟩
 case round=>
  obtain⟨m,rfl,hm,HV⟩:=hrel
  by_cases hlt2:m<n
  ·obtain⟨x,hx⟩:∃ x,ps[m]?=some x:=⟨_,ag (by rw[HN.out];exact hlt2)⟩;obtain⟨g,off,rfl,hcc⟩:=HC.out (by omega);have hc0:=ak HV.out.2 (hcc m x hx).1;have hc1:=ak HV.out.2 (hcc m x hx).2;have hmn:(m:Int)<(n:Int):=by omega
   obtain⟨w4,hw4⟩:∃ w4,wr.alloc (.cells #[.string x.1,.float .f64 x.2] 54)=w4:=⟨_,rfl⟩;have hk4:af [] wr w4:=by rw[←hw4];exact(af.refl _ wr).alloc _
   have g0:w4.cell? ⟨wr.heap.size,0,none⟩=some (.string x.1):=by rw[←hw4,ah (aG wr _)];rfl
   have g1:w4.cell? ⟨wr.heap.size,1,none⟩=some (.float .f64 x.2):=by rw[←hw4,ah (aG wr _)];rfl
   have HR:=ae (FF.out m x w4 (HV.out.2.trans hk4) hx);have XF:x∈S:=HP.out.mem_iff.2 (aB hx);have hj:lV ps x=lbR S x:=by rw[←DU HP.out x,AF x HS.out]
   have hjn:lbR S x<n:=by rw[←MQ.out];exact(au.1 (rk.KO HS.out XF)).1
   obtain⟨j,hjj⟩:∃ j,lbR S x=j:=⟨_,rfl⟩;rw[hj,hjj] at HR;rw[hjj] at hjn;have hjI:(j:Int)<(n:Int):=by omega
   have hjw:IntKind.i64.wrap (j:Int)=(j:Int):=by rw[cH];omega
   have HT:=ae (show ps.take (m+1)=ps.take m++[x] by rw[c8,hx];rfl);have l9:=ae (show(pD S (ps.take m)).set j x=pD S (ps.take m++[x]) by rw[←hjj];exact Hu HS.out XF _);have PV:=ae hk4;clear hx hcc hk4 XF hj hjj;go_wp2_with fail
   refine HR.out.mono ?_;rintro r w6 ⟨rfl,k6⟩;have WM:=PV.out.trans k6;have N5:=HV.out.1.aN WM;have q0:=ak k6 g0;have q1:=ak k6 g1;obtain⟨y,hy⟩:∃ y,(pD S (ps.take m))[j]?=some y:=⟨_,ag (by rw[Ad,MQ.out];exact hjn)⟩;have d0:=bF.cell (enc:=dN) (fun _=>rfl) N5 hy (j:=0) (u:=.string y.1) rfl;have d1:=bF.cell (enc:=dN) (fun _=>rfl) N5 hy (j:=1) (u:=.float .f64 y.2) rfl;rw[Nat.add_zero] at d0;have f0:=N5.frozen (j*2);have f1:=N5.frozen (j*2+1);have I8:=ae N5;have K46:=ae (HV.out.2.trans WM);clear k6 WM N5 hy hc0 hc1 g0 g1;go_wp2_with fail
   go_roundw
   case rel=>have hp2:=Ki I8.out j x (by rw[Ad,MQ.out];exact hjn);rw[l9.out,←HT.out] at hp2;exact⟨m+1,by go_num,by omega,ae ⟨hp2,(K46.out.setCell (p:=⟨w.heap.size,j*2,none⟩) (.inr (aq _)) _).setCell (p:=⟨w.heap.size,j*2+1,none⟩) (.inr (aq _)) _⟩⟩
   case measure=>simp[intOf];omega
  ·obtain rfl:m=n:=by omega
   have hV1:bF dN 2 54 w.heap.size wr (.slice (some ⟨w.heap.size,0,none⟩) m m) S:=by have:=HV.out.1;rw[aE (by rw[HN.out];exact aq _),Hw (fun x hx=>HP.out.mem_iff.1 hx)] at this;exact this
   have HV1:=ae hV1;have HVK:=ae HV.out.2;clear hV1 HV AM;obtain⟨wz,rfl⟩:∃ wz,wz=wr:=⟨_,rfl⟩;go_wp2_with fail
   go_loopw [46,12,13,14] (fun k o _ _ X=>∃ (q:Nat) (ov:Value),k=.int .i64 (q:Int)∧ov=o∧q≤m∧Hid (bF dN 2 54 wz.heap.size X ov (S.take q)∧af [] wz X)) (fun k _ _ _ _=>m-(intOf k).toNat)
   case atStart=>exact⟨0,_,rfl,rfl,bz _,ae ⟨bF.nil _ _ _ _ _,af.refl _ _⟩⟩
   case round=>
    obtain⟨q,ov,rfl,rfl,hq,HV⟩:=hrel
    by_cases hlt3:q<m
    ·obtain⟨x,hx⟩:∃ x,S[q]?=some x:=⟨_,ag (by rw[MQ.out];exact hlt3)⟩;have hk:=HV.out.2;have ho:=HV1.out.aN hk;have d0:=bF.cell (enc:=dN) (fun _=>rfl) ho hx (j:=0) (u:=.string x.1) rfl;have d1:=bF.cell (enc:=dN) (fun _=>rfl) ho hx (j:=1) (u:=.float .f64 x.2) rfl;rw[Nat.add_zero] at d0;have hqm:(q:Int)<(m:Int):=by omega
     have hq0:(0:Int)≤(q:Int):=by omega
     have hd1:decide ((q:Int)<(m:Int))=true:=by simp;omega
     have hd0:decide ((0:Int)≤(q:Int))=true:=by simp
     obtain⟨w4,hw4⟩:∃ w4,wr.alloc (.cells #[.string x.1,.float .f64 x.2] 54)=w4:=⟨_,rfl⟩;have hk4:af [] wr w4:=by rw[←hw4];exact(af.refl _ _).alloc _
     have g0:w4.cell? ⟨wr.heap.size,0,none⟩=some (.string x.1):=by rw[←hw4,ah (aG wr _)];rfl
     have g1:w4.cell? ⟨wr.heap.size,1,none⟩=some (.float .f64 x.2):=by rw[←hw4,ah (aG wr _)];rfl
     have K4:=ae (hk.trans hk4);have HT:=ae (show S.take (q+1)=S.take q++[(x.1,x.2)] by rw[c8,hx];rfl);have HQ:=ae (show(S.take q).length=q by rw[aR,MQ.out];omega);clear hx hk ho hk4;go_wp2_with (at_builtin;go_loud (refine Ga rfl _ _ rfl wz.heap.size ov q (S.take q) x.1 x.2 rfl (HV.out.1.aN (by rw[←hw4];exact(af.refl _ _).alloc _)) HQ.out.symm rfl (by omega) K4.out.size ?_;intro g c w5 hp;have S8:=ae hp;clear hp))
     go_roundw
     case rel=>exact⟨q+1,_,by go_num,rfl,by omega,ae ⟨by rw[HT.out];exact S8.out.own,K4.out.step S8.out.bY (fun b hb=>.inr (HV.out.1.lt b (by simpa using hb)).1)⟩⟩
     case measure=>simp[intOf];omega
    ·obtain rfl:q=m:=by omega
     go_wp2_with fail
     go_ret;have h2:=HV.out.1;rw[aE (by rw[MQ.out];exact aq _)] at h2;exact⟨_,rfl,h2.mono HVK.out.size,HVK.out.trans HV.out.2⟩
end jw
namespace jw
open ks (af ae hlt ah bC alloc_old aG aX aT dp)
def iU:Value:=.pointer none
def dvO (k:Int) (t:ByteArray) (l r f m:Value):Obj:=.cells #[.int .i64 k,.string t,l,r,f,m] 89
def Tj (w:World) (vb:Nat) (l:List ByteArray):Prop:=∃ B db v es,w.heap[vb]?=some (dvO 2 ByteArray.empty (dp db) iU iU iU)∧DqD B w db v es∧fQ es=l
def VY (w:World) (vb:Nat) (l:List (ByteArray×ByteArray)):Prop:=∃ B rb db av ps kl,w.heap[vb]?=some (dvO 3 ByteArray.empty iU (dp rb) iU iU)∧Cd B w rb db av ps kl∧ps.Perm l
def VZ (w:World) (vb:Nat) (l:List ByteArray):Prop:=∃ B rb db av ps kl,w.heap[vb]?=some (dvO 4 ByteArray.empty iU iU (dp rb) iU)∧Cl B w rb db av ps kl∧ps.Perm l
def Z1 (w:World) (vb:Nat) (l:List (ByteArray×Nat)):Prop:=∃ B rb av,w.heap[vb]?=some (dvO 5 ByteArray.empty iU iU iU (dp rb))∧RkD B w rb av l
def Cn (w:World) (vb:Nat) (p:cG):Prop:=(p.kind=1∧w.heap[vb]?=some (dvO 1 p.text iU iU iU iU))∨(p.kind=2∧Tj w vb p.items)∨(p.kind=3∧VY w vb p.bL)∨(p.kind=4∧VZ w vb p.items)∨(p.kind=5∧Z1 w vb p.bI)
theorem Cn.aN {w w':World} {vb:Nat} {p:cG} (h:Cn w vb p) (hk:af [] w w'):Cn w' vb p:=by
  rcases h with⟨a,b⟩|⟨a,B,db,v,es,b,c,d⟩|⟨a,B,rb,db,av,ps,kl,b,c,d⟩|⟨a,B,rb,db,av,ps,kl,b,c,d⟩|⟨a,B,rb,av,b,c⟩
  · exact .inl ⟨a,hk.get b (by simp)⟩
  · exact .inr (.inl ⟨a,B,db,v,es,hk.get b (by simp),c.aN hk,d⟩)
  · exact .inr (.inr (.inl ⟨a,B,rb,db,av,ps,kl,hk.get b (by simp),c.aN hk,d⟩))
  · exact .inr (.inr (.inr (.inl ⟨a,B,rb,db,av,ps,kl,hk.get b (by simp),c.aN hk,d⟩)))
  · exact .inr (.inr (.inr (.inr ⟨a,B,rb,av,hk.get b (by simp),c.aN hk⟩)))
theorem Rl (w:World):Calls Tryz.prog 27 #[] w fun r w'=>r=.returned (dp w.heap.size)∧DqD w.heap.size w' w.heap.size (.slice none 0 0) []∧af [] w w':=by
  unfold dp;go_enter Tryz.func27,Tryz.ntmps27
  go_wp2
  go_ret;exact⟨rfl,⟨aG w _,dI.nil _ _,by simp,aq _⟩,(af.refl _ w).alloc _⟩
theorem KD (s:ByteArray) (w:World):Calls Tryz.prog 26 #[.string s] w fun r w'=>r=.returned (dp w.heap.size)∧w.alloc (dvO 1 s iU iU iU iU)=w':=by
  unfold dp dvO iU;go_enter Tryz.func26,Tryz.ntmps26
  go_wp2
  go_ret;exact⟨rfl,rfl⟩
theorem KE (b:Nat) (w:World):Calls Tryz.prog 29 #[dp b] w fun r w'=>r=.returned (dp w.heap.size)∧w.alloc (dvO 2 ByteArray.empty (dp b) iU iU iU)=w':=by
  unfold dp dvO iU;go_enter Tryz.func29,Tryz.ntmps29
  go_wp2
  go_ret;exact⟨rfl,rfl⟩
theorem ES (b:Nat) (w:World):Calls Tryz.prog 32 #[dp b] w fun r w'=>r=.returned (dp w.heap.size)∧w.alloc (dvO 3 ByteArray.empty iU (dp b) iU iU)=w':=by
  unfold dp dvO iU;go_enter Tryz.func32,Tryz.ntmps32
  go_wp2
  go_ret;exact⟨rfl,rfl⟩
theorem Iq (b:Nat) (w:World):Calls Tryz.prog 35 #[dp b] w fun r w'=>r=.returned (dp w.heap.size)∧w.alloc (dvO 4 ByteArray.empty iU iU (dp b) iU)=w':=by
  unfold dp dvO iU;go_enter Tryz.func35,Tryz.ntmps35
  go_wp2
  go_ret;exact⟨rfl,rfl⟩
theorem Ip (b:Nat) (w:World):Calls Tryz.prog 38 #[dp b] w fun r w'=>r=.returned (dp w.heap.size)∧w.alloc (dvO 5 ByteArray.empty iU iU iU (dp b))=w':=by
  unfold dp dvO iU;go_enter Tryz.func38,Tryz.ntmps38
  go_wp2
  go_ret;exact⟨rfl,rfl⟩
theorem Bt (vb:Nat) (k:Int) (w:World) (h:w.cell? ⟨vb,0,none⟩=some (.int .i64 k)):Calls Tryz.prog 39 #[dp vb] w fun r w'=>r=.returned (.int .i64 k)∧w=w':=by
  unfold dp;go_enter Tryz.func39,Tryz.ntmps39
  go_wp2
  go_ret;exact⟨rfl,rfl⟩
theorem Cn.kind {w:World} {vb:Nat} {p:cG} (h:Cn w vb p):w.cell? ⟨vb,0,none⟩=some (.int .i64 p.kind):=by
  rcases h with⟨a,b⟩|⟨a,B,db,v,es,b,c,d⟩|⟨a,B,rb,db,av,ps,kl,b,c,d⟩|⟨a,B,rb,db,av,ps,kl,b,c,d⟩|⟨a,B,rb,av,b,c⟩
  all_goals
    rw[ah b,a];rfl
def wH (p:cG):Nat:=if p.kind=2∨p.kind=4 then p.items.length else if p.kind=3 then p.bL.length else if p.kind=5 then p.bI.length else 0
theorem Rr (vb:Nat) (p:cG) (w:World) (h:Cn w vb p) (hf:p.items.length≤1048576):Calls Tryz.prog 40 #[dp vb] w fun r w'=>r=.returned (.int .i64 (wH p:Int))∧af [] w w':=by
  have HK:=ae (Bt vb p.kind w h.kind)
  rcases h with⟨a,b⟩|⟨a,B,db,v,es,b,c,d⟩|⟨a,B,rb,db,av,ps,kl,b,c,d⟩|⟨a,B,rb,db,av,ps,kl,b,c,d⟩|⟨a,B,rb,av,b,c⟩
  · have HL:=ae (show wH p=0 by unfold wH;rw[a];rfl)
    rw[a] at HK;unfold dp at *;clear a b;go_enter Tryz.func40,Tryz.ntmps40
    go_wp2_with (go_at_call 39;refine HK.out.mono ?_;rintro r w2 ⟨rfl,rfl⟩)
    go_ret;exact⟨by rw[HL.out];rfl,af.refl _ _⟩
  · have HL:=ae (show wH p=p.items.length by unfold wH;rw[a];rfl)
    have HM:=ae (KL B db v es w c (by rw[d];exact hf));rw[d] at HM;have c2:w.cell? ⟨vb,2,none⟩=some (dp db):=by rw[ah b];rfl
    rw[a] at HK;unfold dp at *;clear a b c d;go_enter Tryz.func40,Tryz.ntmps40
    go_wp2_with fail
    refine HK.out.mono ?_;rintro r w2 ⟨rfl,rfl⟩;go_wp2_with fail
    refine HM.out.mono ?_;rintro r w2 ⟨rfl,k2⟩;have K2:=ae k2;clear k2;go_wp2_with fail
    go_ret;exact⟨by rw[HL.out];rfl,K2.out⟩
  · have HL:=ae (show wH p=ps.length by unfold wH;rw[a];exact d.length_eq.symm)
    have HM:=ae (Rt B rb db av ps kl w c);have c3:w.cell? ⟨vb,3,none⟩=some (dp rb):=by rw[ah b];rfl
    rw[a] at HK;unfold dp at *;clear a b c d;go_enter Tryz.func40,Tryz.ntmps40
    go_wp2_with fail
    refine HK.out.mono ?_;rintro r w2 ⟨rfl,rfl⟩;go_wp2_with fail
    refine HM.out.mono ?_;rintro r w2 ⟨rfl,rfl⟩;go_wp2_with fail
    go_ret;exact⟨by rw[HL.out];rfl,af.refl _ _⟩
  · have HL:=ae (show wH p=ps.length by unfold wH;rw[a];exact d.length_eq.symm)
    have HM:=ae (Rs B rb db av ps kl w c);have c4:w.cell? ⟨vb,4,none⟩=some (dp rb):=by rw[ah b];rfl
    rw[a] at HK;unfold dp at *;clear a b c d;go_enter Tryz.func40,Tryz.ntmps40
    go_wp2_with fail
    refine HK.out.mono ?_;rintro r w2 ⟨rfl,rfl⟩;go_wp2_with fail
    refine HM.out.mono ?_;rintro r w2 ⟨rfl,rfl⟩;go_wp2_with fail
    go_ret;exact⟨by rw[HL.out];rfl,af.refl _ _⟩
  · have HL:=ae (show wH p=p.bI.length by unfold wH;rw[a];rfl)
    have HM:=ae (KK B rb av p.bI w c);have c5:w.cell? ⟨vb,5,none⟩=some (dp rb):=by rw[ah b];rfl
    rw[a] at HK;unfold dp at *;clear a b c;go_enter Tryz.func40,Tryz.ntmps40
    go_wp2_with fail
    refine HK.out.mono ?_;rintro r w2 ⟨rfl,rfl⟩;go_wp2_with fail
    refine HM.out.mono ?_;rintro r w2 ⟨rfl,rfl⟩;go_wp2_with fail
    go_ret;exact⟨by rw[HL.out];rfl,af.refl _ _⟩
theorem IN {p:cG} (h:ti p):lp p↔p.kind≠1∧wH p=0:=by
  have h0:=h.hk;have h2:=h.hi;have h3:=h.hp;have h4:=h.hr;have e1:p.items=[]↔p.items.length=0:=bU.symm;have e2:p.bL=[]↔p.bL.length=0:=bU.symm;have e3:p.bI=[]↔p.bI.length=0:=bU.symm;unfold lp wH;rw[e1,e2,e3];rw[e1] at h2;rw[e2] at h3;rw[e3] at h4
  split<;>(try split)<;>(try split)<;>omega
theorem LL (vb:Nat) (p:cG) (w:World) (h:Cn w vb p) (hk:ti p) (hf:p.items.length≤1048576):Calls Tryz.prog 12 #[dp vb] w fun r w'=>(∃ b:Bool,r=.returned (.bool b)∧(b=true↔lp p))∧af [] w w':=by
  have HK:=ae (Bt vb p.kind w h.kind);have HL:=ae (Rr vb p w h hf);have HE:=ae (IN hk);have h0:=hk.hk;obtain⟨kd,hkd⟩:∃ kd,p.kind=kd:=⟨_,rfl⟩;rw[hkd] at HK HE h0;unfold dp at *;clear h hk hkd
  rcases(by omega:kd=1∨kd=2∨kd=3∨kd=4∨kd=5) with rfl|rfl|rfl|rfl|rfl
  all_goals
    go_enter Tryz.func12,Tryz.ntmps12
    go_wp2_with fail
    refine HK.out.mono ?_;rintro r w2 ⟨rfl,rfl⟩;go_wp2_with fail
    first
      | (refine HK.out.mono ?_
         rintro r w2 ⟨rfl,rfl⟩;go_wp2_with fail
         first
           | (refine HL.out.mono ?_
              rintro r w2 ⟨rfl,k2⟩;have K2:=ae k2;clear k2;go_wp2_with fail
              go_ret
              exact⟨⟨_,rfl,by rw[HE.out];simp<;>omega⟩,K2.out⟩)
           | (go_ret
              exact⟨⟨_,rfl,by rw[HE.out];simp⟩,af.refl _ _⟩))
open rk (Fl fk gN lbR j9)
def mV (x:ByteArray×Nat):Value:=.agg #[.string x.1,.float .f64 x.2]
theorem Kk (a b:ByteArray×Nat) (w:World) (ha:Fl a.2) (hb:Fl b.2):
  Calls Tryz.prog 148 #[mV a,mV b] w fun r w'=>r=.returned (.int .i64 (gN a b))∧af [] w w':=by
 have h1:=rk.yD ha hb;obtain⟨am,ax⟩:=a;obtain⟨bm,bx⟩:=b;unfold mV;simp only at h1 ⊢
 rcases dy (fk ax) (fk bx) with hc|hc|hc
 ·rw[show gN (am,ax) (bm,bx)=-1 from aQ hc];rw[fl.j8 hc] at h1;clear hc ha hb;go_enter Tryz.func148,Tryz.ntmps148
  go_wp2_with fail
  go_ret;exact⟨rfl,by first|exact af.refl _ _|exact(af.refl _ _).alloc _|exact((af.refl _ _).alloc _).alloc _⟩
 ·rw[show gN (am,ax) (bm,bx)=Lib.compareBytes am.data.toList bm.data.toList from(aJ (by simp only;omega)).trans (aJ (by simp only;omega))];rw[show compare (fk ax) (fk bx)=.eq by rw[hc];simp] at h1;clear hc ha hb;go_enter Tryz.func148,Tryz.ntmps148
  go_wp2_with (go_at_call 175;refine(Tryz.strings_Compare _ _ _).mono ?_;rintro e w' ⟨rfl,rfl⟩)
  go_ret;exact⟨rfl,by first|exact af.refl _ _|exact(af.refl _ _).alloc _|exact((af.refl _ _).alloc _).alloc _⟩
 ·rw[show gN (am,ax) (bm,bx)=1 from(aJ (by simp only;omega)).trans (aQ hc)];rw[fl.lr hc] at h1;clear hc ha hb;go_enter Tryz.func148,Tryz.ntmps148
  go_wp2_with fail
  go_ret;exact⟨rfl,by first|exact af.refl _ _|exact(af.refl _ _).alloc _|exact((af.refl _ _).alloc _).alloc _⟩
structure Bp (l:List (ByteArray×Nat)) (x:ByteArray×Nat) (i j:Nat):Prop where
 le:i≤j
 n:j≤l.length
 lo:∀ p y,p<i→l[p]?=some y→gN y x<0
 hi:∀ p y,j≤p→l[p]?=some y→0≤gN y x
theorem F3 {l:List (ByteArray×Nat)} (h:j9 l) {i j:Nat} {a b:ByteArray×Nat} (hij:i<j) (ha:l[i]?=some a) (hb:l[j]?=some b):gN a b<0:=by obtain⟨h1,rfl⟩:=au.1 ha;obtain⟨h2,rfl⟩:=au.1 hb;exact fB.1 h i j h1 h2 hij
set_option maxRecDepth 100000 in
theorem bpC (l:List (ByteArray×Nat)) (v:Value) (x:ByteArray×Nat) (w:World) (h:eh dN 2 w v l) (hn:l.length≤1048576) (hr:j9 l) (hf:∀ y∈l,Fl y.2) (hx:Fl x.2):
  Calls Tryz.prog 147 #[v,mV x,.func (.func 148) #[] #[]] w fun e w'=>∃ f,e=.returned (.tuple #[.int .i64 (lbR l x:Nat),.bool f])∧af [] w w':=by
 obtain⟨va,fD,rfl,_,_,_,hc⟩:=h.lN;generalize hln:l.length=n at hn hc ⊢
 have HC:=ae hc;have HL:=ae hln;have HR:=ae hr;have HF:=ae hf;have HX:=ae hx;clear h hr hf hx hln hc;obtain⟨xm,xb⟩:=x;obtain⟨W,hW⟩:∃ W,W=w.alloc (.cells #[.string xm,.float .f64 xb] 54):=⟨_,rfl⟩;have hb:W.heap[w.heap.size]?=some (.cells #[.string xm,.float .f64 xb] 54 (0,0)):=by rw[hW];exact aG w _
 have pq:af [] w W:=by rw[hW];exact(af.refl _ w).alloc _
 have HB0:=ae hb;have kK:=ae pq;have HW:=ae hW;clear hb pq;unfold mV;simp only;go_enter Tryz.func147,Tryz.ntmps147
 go_upto_region 1 with(fail)
 rw[←hW];clear hW;go_wp2_with fail
 go_loopw [9,10] (fun s y wr=>∃ i j:Nat,s=.int .i64 (i:Int)∧y=.int .i64 (j:Int)∧Hid (Bp l (xm,xb) i j∧af [] W wr)) (fun s y _=>((intOf y)-(intOf s)).toNat)
 case atStart=>exact⟨0,n,rfl,rfl,ae ⟨⟨bz _,by rw[HL.out];exact aq _,fun p r hp=>by omega,fun p r hp hr=>by rw[bR (by rw[HL.out];exact hp)] at hr;cases hr⟩,af.refl _ _⟩⟩
 case round=>
  obtain⟨i,j,rfl,rfl,HB⟩:=hrel;have hle:=HB.out.1.le;have hjn:=HB.out.1.n;rw[HL.out] at hjn;have hbx:=HB.out.2.get HB0.out (by simp);have x0:wr.cell? ⟨w.heap.size,0,none⟩=some (.string xm):=by rw[ah hbx];rfl
  have x1:wr.cell? ⟨w.heap.size,1,none⟩=some (.float .f64 xb):=by rw[ah hbx];rfl
  clear hbx
  by_cases hlt2:i<j
  ·obtain⟨m,hm⟩:∃ m,m=(i+j) / 2:=⟨_,rfl⟩;have hm1:i≤m:=by omega
   have hm2:m<j:=by omega
   have Lo:((i:Int)+(j:Int)) / 2=(m:Int):=by rw[hm];omega
   obtain⟨r,hr⟩:∃ r,l[m]?=some r:=⟨_,ag (by rw[HL.out];omega)⟩;obtain⟨g,off,rfl,hcc⟩:=HC.out (by omega);obtain⟨d0,d1⟩:=hcc m r hr;have c0:=ak (kK.out.trans HB.out.2) d0;have c1:=ak (kK.out.trans HB.out.2) d1;clear d0 d1 hcc;have HRR:=ae hr;have HM:=ae hm;have Ci:=ae (fun X=>Kk r (xm,xb) X (HF.out r (aB hr)) HX.out);clear hr hm;obtain⟨rm,rx⟩:=r;obtain⟨c,hc⟩:∃ c,c=gN (rm,rx) (xm,xb):=⟨_,rfl⟩;unfold mV at Ci;rw[←hc] at Ci;simp only at Ci c0 c1;have MW:=ae hc;clear hc;have hmn:(m:Int)<(n:Int):=by omega
   have hm0:(0:Int)≤(m:Int):=by omega
   go_wp2_with fail
   go_still_tail 6,(by kernel_rfl)
   go_wp2_with fail
   refine(Ci.out _).mono ?_;rintro e w2 ⟨rfl,hk2⟩;have kM:Hid (af [] wr w2):=ae (((af.refl [] wr).drew).trans hk2);clear hk2 c0 c1 x0 x1
   by_cases hcl:c<0
   ·go_wp2_with fail
    go_roundw
    case rel=>
     refine⟨m+1,j,by go_num,rfl,ae ⟨⟨by omega,HB.out.1.n,fun p q hp hq=>?_,HB.out.1.hi⟩,HB.out.2.trans kM.out⟩⟩
     by_cases hpm:p=m
     ·subst hpm;rw[HRR.out] at hq;obtain rfl:=cK hq;rw[←MW.out];exact hcl
     ·exact rk.q9 (F3 HR.out (show p<m by omega) hq HRR.out) (by rw[←MW.out];exact hcl)
    case measure=>simp[intOf];omega
   ·have hcd:decide (c<0)=false:=by simpa using hcl
    go_wp2_with fail
    go_roundw
    case rel=>
     refine⟨i,m,rfl,rfl,ae ⟨⟨hm1,by rw[HL.out];omega,HB.out.1.lo,fun p q hp hq=>?_⟩,HB.out.2.trans kM.out⟩⟩
     by_cases hpm:p=m
     ·subst hpm;rw[HRR.out] at hq;obtain rfl:=cK hq;rw[←MW.out];omega
     ·exact rk.NF (by rw[←MW.out];omega) (F3 HR.out (show m<p by omega) HRR.out hq)
    case measure=>simp[intOf];omega
  ·obtain rfl:i=j:=by omega
   have hlb:i=lbR l (xm,xb):=rk.KN l (xm,xb) i (by rw[HL.out];exact hjn) HB.out.1.lo HB.out.1.hi;have VK:=ae hlb;clear hlb
   by_cases hin:i<n
   ·obtain⟨r,hr⟩:∃ r,l[i]?=some r:=⟨_,ag (by rw[HL.out];omega)⟩;obtain⟨g,off,rfl,hcc⟩:=HC.out (by omega);obtain⟨d0,d1⟩:=hcc i r hr;have c0:=ak (kK.out.trans HB.out.2) d0;have c1:=ak (kK.out.trans HB.out.2) d1;have Ci:=ae (fun X=>Kk r (xm,xb) X (HF.out r (aB hr)) HX.out);clear hr d0 d1 hcc;obtain⟨rm,rx⟩:=r;obtain⟨c,hc⟩:∃ c,c=gN (rm,rx) (xm,xb):=⟨_,rfl⟩;unfold mV at Ci;rw[←hc] at Ci;simp only at Ci c0 c1;clear hc;have hmn:(i:Int)<(n:Int):=by omega
    have hdt:decide ((i:Int)<(n:Int))=true:=by simp;omega
    have ab3:decide (i<n)=true:=by simp;omega
    have hm0:(0:Int)≤(i:Int):=by omega
    go_wp2_with fail
    go_region_held3 (fun w'=>w'.cell? ⟨g,off+i*2,none⟩=some (.string rm)∧w'.cell? ⟨g,off+i*2+1,none⟩=some (.float .f64 rx)∧w'.cell? ⟨w.heap.size,0,none⟩=some (.string xm)∧w'.cell? ⟨w.heap.size,1,none⟩=some (.float .f64 xb)) (first|exact⟨c0,c1,x0,x1⟩|exact⟨q0,q1,q2,q3⟩|(go_keep;done)) ((go_at_call 148;refine(Ci.out _).mono ?_;rintro e w2 ⟨rfl,hk2⟩;have hk3:=((af.refl [] wr).drew).trans hk2;have q0:=ak hk3 c0;have q1:=ak hk3 c1;have q2:=ak hk3 x0;have q3:=ak hk3 x1;have kM:=ae hk3;clear hk2 hk3))
    go_wp2_with fail
    go_ret2
    exact⟨_,by rw[←VK.out];rfl,(kK.out.trans HB.out.2).trans kM.out⟩
   ·have hd:decide ((i:Int)<(n:Int))=false:=by simp;omega
    have hd2:decide (i<n)=false:=by simp;omega
    go_wp2_with fail
    go_quiet (fail)
    go_wp2_with fail
    go_ret2
    exact⟨_,by rw[←VK.out];rfl,(kK.out.trans HB.out.2).trans ((af.refl _ _).drewN _)⟩
end jw
end Go.Proofs.YthpdlidbaojlbaaGreatDoor
