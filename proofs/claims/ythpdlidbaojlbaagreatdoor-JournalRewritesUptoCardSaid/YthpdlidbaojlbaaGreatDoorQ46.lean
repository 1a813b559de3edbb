/- The walk of the reference's Shortest. -/
import Derived.Test.YthpdlidbaojlbaaGreatDoorQ45
set_option linter.unusedVariables false
set_option linter.unusedSimpArgs false
set_option maxHeartbeats 4000000
open Go.ChangeShapes Go.WideShapes Go.ChangeAt Go.RowKit
namespace Go.Proofs.YthpdlidbaojlbaaGreatDoor
namespace fl
def lu (x:Nat) (w:World) (e:Ending) (w':World):Prop:=∃ t:ByteArray,e=.returned (.string t)∧fG x (bl t)∧t.size≤2000∧Below w.heap.size w w'
theorem xM (s:Bool) (u:Nat) (h:u<9223372036854775808):(sgw s+u) % 9223372036854775808=u:=by cases s<;>simp[sgw]<;>omega
theorem Qi (s:Bool) (u:Nat) (h:u<9223372036854775808):(9223372036854775808≤sgw s+u)↔s=true:=by cases s<;>simp[sgw]<;>omega
def sgB (s:Bool):List Nat:=if s then [45] else []
theorem Cz:sgB true=[45]:=rfl
theorem CA:sgB false=[]:=rfl
theorem wy {s:Bool} {u:Nat} (h1:cD<u) (h2:u<9223372036854775808):fG (sgw s+u) [110,97,110]:=by unfold fG;rw[xM s u h2,aQ h1]
theorem Es (s:Bool) (u:Nat) (h:u<9223372036854775808):(if 9223372036854775808≤sgw s+u then [45] else [])=sgB s:=by
 unfold sgB;have:=Qi s u h
 by_cases hs:s=true
 ·rw[aQ (this.2 hs),aQ hs]
 ·rw[aJ (fun h=>hs (this.1 h)),aJ hs]
theorem wA (s:Bool) (I:Nat) (h:cD=I):fG (sgw s+I) (sgB s++[105,110,102]):=by
 have hI:I<9223372036854775808:=by rw[←h];decide
 unfold fG;rw[xM s I hI,h,aJ (kT _),aQ rfl,Es s I hI]
theorem uz (s:Bool):fG (sgw s+0) (sgB s++[48]):=by unfold fG;rw[xM s 0 (by decide),aJ (by decide),aJ (by decide),aQ rfl,Es s 0 (by decide)]
theorem wB {s:Bool} {u:Nat} {d:List Nat} {p:Int} (h0:0<u) (h:u<cD) (hs:Sh u d p):fG (sgw s+u) (sgB s++tT d p):=by have h2:u<9223372036854775808:=eI h (by decide);unfold fG;rw[xM s u h2,aJ (by omega),aJ (by omega),aJ (by omega),Es s u h2];exact⟨d,p,hs,rfl⟩
set_option maxRecDepth 100000 in
theorem J4 (s:Bool) (u:Nat) (w:World) (h1:cD<u) (h2:u<9223372036854775808):
  Calls Tryz.prog 65 #[.float .f64 (sgw s+u)] w (lu (sgw s+u) w):=by
 have cn:=wI (sgw s+u) true w (by
  have:FloatKind.f64.format.order (sgw s+u) (sgw s+u)=none:=Gi s u _ h1 h2
  rw[this];rfl)
 have HP:=aj (wy (s:=s) h1 h2);obtain⟨x,hx⟩:∃ x,sgw s+u=x:=⟨_,rfl⟩;rw[hx] at cn HP ⊢;clear hx h1 h2;go_enter Tryz.func65,Tryz.ntmps65
 go_wp2_with fail
 refine cn.mono ?_;clear cn;rintro e w' ⟨rfl,rfl⟩;go_wp2_with fail
 go_ret;exact⟨_,rfl,HP.out,by decide,Below.refl _ _⟩
theorem Ai (s:Bool) (u:Nat) (h:u≤cD) (w:World):Calls Tryz.prog 68 #[.float .f64 (sgw s+u)] w fun e w'=>e=.returned (.bool false)∧w=w':=
 wI (sgw s+u) false w (by
  have:FloatKind.f64.format.order (sgw s+u) (sgw s+u)=some .eq:=C3 s u h
  rw[this];rfl)
set_option maxRecDepth 100000 in
theorem J5 (s:Bool) (w:World):
  Calls Tryz.prog 65 #[.float .f64 (sgw s+cD)] w (lu (sgw s+cD) w):=by
 have cn:=Ai s cD (aq _) w;have ci:=wJ s cD 1 (!s) w (aq _) (by decide) (by cases s<;>decide);have cj:=wJ s cD (-1) s w (aq _) (by decide) (by cases s<;>decide);obtain⟨I,hI⟩:∃ I,cD=I:=⟨_,rfl⟩;have HP:Hid (fG (sgw s+I) (sgB s++[105,110,102])):=aj (wA s I hI);rw[hI] at cn ci cj ⊢;clear hI;obtain⟨x,hx⟩:∃ x,sgw s+I=x:=⟨_,rfl⟩;rw[hx] at cn HP ci cj ⊢;clear hx;cases s
 ·go_enter Tryz.func65,Tryz.ntmps65
  go_wp2_with fail
  refine cn.mono ?_;rintro e w' ⟨rfl,rfl⟩;go_wp2_with fail
  refine ci.mono ?_;clear cn ci cj;rintro e w' ⟨rfl,rfl⟩;go_wp2_with fail
  go_ret;exact⟨_,rfl,HP.out,by decide,Below.refl _ _⟩
 ·go_enter Tryz.func65,Tryz.ntmps65
  go_wp2_with fail
  refine cn.mono ?_;rintro e w' ⟨rfl,rfl⟩;go_wp2_with fail
  refine ci.mono ?_;rintro e w' ⟨rfl,rfl⟩;go_wp2_with fail
  refine cj.mono ?_;clear cn ci cj;rintro e w' ⟨rfl,rfl⟩;go_wp2_with fail
  go_ret;exact⟨_,rfl,HP.out,by decide,Below.refl _ _⟩
set_option maxRecDepth 100000 in
theorem J6 (s:Bool) (u:Nat) (w:World) (hf:ad3 w) (h:u<cD):
  Calls Tryz.prog 65 #[.float .f64 (sgw s+u)] w (lu (sgw s+u) w):=by
 have hub:u<9223372036854775808:=eI h (by decide);have cn:=Ai s u (bW h) w;have ci:=wJ s u 1 false w (bW h) (by decide) (by simp;omega);have cj:=wJ s u (-1) false w (bW h) (by decide) (by simp;omega);have cs:=JK s u w hub;have ca:=OL s u w hub;obtain⟨o,ho,hz,-⟩:=Kl s u h;have ho':FloatKind.f64.format.order (sgw s+u) 0=some o:=ho;have HF:=aj hf;have HU:=aj h;clear ho hf h hub
 by_cases h0:u=0
 ·subst h0;obtain rfl:=hz.2 rfl;have HP:=aj (uz s);obtain⟨x,hx⟩:∃ x,sgw s+0=x:=⟨_,rfl⟩;rw[hx] at cn HP ci cj cs ca ho' ⊢;clear hx hz ca;cases s
  all_goals
   go_enter Tryz.func65,Tryz.ntmps65
   go_wp2_with fail
   refine cn.mono ?_;rintro e w' ⟨rfl,rfl⟩;go_wp2_with fail
   refine ci.mono ?_;rintro e w' ⟨rfl,rfl⟩;go_wp2_with fail
   refine cj.mono ?_;rintro e w' ⟨rfl,rfl⟩;go_wp2_with fail
   refine cs.mono ?_;clear cn ci cj cs;rintro e w' ⟨rfl,rfl⟩;go_wp2_with fail
   go_ret;exact⟨_,rfl,HP.out,by decide,Below.refl _ _⟩
 ·have hne:o≠.eq:=fun e=>h0 (hz.1 e)
  have H0:Hid (0<u):=aj (by omega);have cS:=Hn u w HF.out H0.out HU.out;have HP:Hid (∀ d p,Sh u d p→fG (sgw s+u) (sgB s++tT d p)):=aj (fun d p hs=>wB H0.out HU.out hs);obtain⟨x,hx⟩:∃ x,sgw s+u=x:=⟨_,rfl⟩;rw[hx] at cn HP ci cj cs ca ho' ⊢;clear hx hz h0
  rcases o with _|_|_
  ·clear hne;cases s
   all_goals
    go_enter Tryz.func65,Tryz.ntmps65
    go_wp2_with fail
    refine cn.mono ?_;rintro e w' ⟨rfl,rfl⟩;go_wp2_with fail
    refine ci.mono ?_;rintro e w' ⟨rfl,rfl⟩;go_wp2_with fail
    refine cj.mono ?_;rintro e w' ⟨rfl,rfl⟩;go_wp2_with fail
    refine cs.mono ?_;rintro e w' ⟨rfl,rfl⟩;go_wp2_with fail
    refine ca.mono ?_;rintro e w' ⟨rfl,rfl⟩;go_wp2_with fail
    refine cS.mono ?_;clear cn ci cj cs ca cS ho';rintro e w1 ⟨t,p,rfl,hs,hb⟩;have hbd:=FX H0.out HU.out hs;rw[aL] at hbd;obtain⟨hb1,hb2,hb3,hb4⟩:=hbd;have HS:=aj hs;have B1:=aj hb;have zv:=aj (HF.out.on hb);clear hs hb;go_wp2_with fail
    refine(Pr t p _ zv.out hb1 (by omega) (by omega) (by omega)).mono ?_;rintro e w2 ⟨t2,rfl,ht2,hts,hb2⟩;have HT:=aj ht2;have B2:=aj (B1.out.trans (hb2.mono B1.out.size));clear ht2 hb2;go_wp2_with fail
    go_ret;refine⟨_,rfl,?_,?_,B2.out⟩
    ·rw[da,HT.out];exact HP.out _ _ HS.out
    ·simp only[bJ,lG,nV];omega
  ·exact absurd rfl hne
  ·clear hne;cases s
   all_goals
    go_enter Tryz.func65,Tryz.ntmps65
    go_wp2_with fail
    refine cn.mono ?_;rintro e w' ⟨rfl,rfl⟩;go_wp2_with fail
    refine ci.mono ?_;rintro e w' ⟨rfl,rfl⟩;go_wp2_with fail
    refine cj.mono ?_;rintro e w' ⟨rfl,rfl⟩;go_wp2_with fail
    refine cs.mono ?_;rintro e w' ⟨rfl,rfl⟩;go_wp2_with fail
    refine ca.mono ?_;rintro e w' ⟨rfl,rfl⟩;go_wp2_with fail
    refine cS.mono ?_;clear cn ci cj cs ca cS ho';rintro e w1 ⟨t,p,rfl,hs,hb⟩;have hbd:=FX H0.out HU.out hs;rw[aL] at hbd;obtain⟨hb1,hb2,hb3,hb4⟩:=hbd;have HS:=aj hs;have B1:=aj hb;have zv:=aj (HF.out.on hb);clear hs hb;go_wp2_with fail
    refine(Pr t p _ zv.out hb1 (by omega) (by omega) (by omega)).mono ?_;rintro e w2 ⟨t2,rfl,ht2,hts,hb2⟩;have HT:=aj ht2;have B2:=aj (B1.out.trans (hb2.mono B1.out.size));clear ht2 hb2;go_wp2_with fail
    go_ret;refine⟨_,rfl,?_,?_,B2.out⟩
    ·rw[da,HT.out];exact HP.out _ _ HS.out
    ·simp only[bJ,lG,nV];omega
theorem Q4 (x:Nat) (w:World) (hf:ad3 w) (hx:x<18446744073709551616):
  Calls Tryz.prog 65 #[.float .f64 x] w (lu x w):=by
 obtain⟨s,u,hu,rfl⟩:∃ s u,u<9223372036854775808∧x=sgw s+u:=by
  by_cases h:9223372036854775808≤x
  ·exact⟨true,x-9223372036854775808,by omega,by simp only[sgw,kY];omega⟩
  ·exact⟨false,x,by omega,by simp[sgw]⟩
 rcases fH u cD with h|h|h
 ·exact J6 s u w hf h
 ·subst h;exact J5 s w
 ·exact J4 s u w h hu
theorem SI (u d:Nat) (q:Int):(agL (pM u) (pE u+1) q<agR d (pE u+1) q↔2*(V u*cC q)<cN d q)∧(agR d (pE u+1) q<agL (pM u) (pE u+1) q↔cN d q<2*(V u*cC q)):=by
 obtain⟨s,h1,h2,h3⟩:=Bg u;have h:=Mg (pM u) (pE u+1) q d (s+2) (by rw[FE];rw[nM] at h1;omega);rw[aY,←aA,h2] at h;have e1:V u*2 ^ 2*cC q=4*(V u*cC q):=by rw[aK (V u),aA]
 rw[e1] at h;exact⟨h.1.trans (by omega),h.2.trans (by omega)⟩
theorem Rc {u:Nat} (h:u<cD):pE u≤1000:=by
 have hi:cD=9218868437227405312:=rfl;unfold pE;split
 ·omega
 ·omega
def Mo:Nat:=331
theorem OU:Mo=331:=rfl
theorem Nd:2 ^ K74≤10 ^ Mo:=by decide +kernel
theorem Hk {u:Nat} (h0:0<u):cN 1 (-330-1)≤V u*cC (-330-1):=by rw[py,jR,show(-330-1:Int).toNat=0 by omega,Nat.pow_zero,bB,dv,show(-(-330-1):Int).toNat=Mo by rw[OU];omega];have g1:=zO u;have g3:=Nd;have g4:1*10 ^ Mo≤V u*10 ^ Mo:=aI _ (by omega);omega
theorem RX {u:Nat} (hu:u<cD) {p:Int} (hp:400≤p):V u*cC p<cN 1 p:=by rw[py,jR,show(-p).toNat=0 by omega,Nat.pow_zero,bB,dv];have h1:=sZ hu;have h2:10 ^ DX*2 ^ K74≤10 ^ p.toNat*2 ^ K74:=aI _ (aS (by decide) (by rw[vS];omega));have h3:=BD;omega
theorem KT {l:List Nat} {j:Nat} (hl:l.length=j+1) (h:∀ c∈l,dX c):l.getD j 0 % 2=cX l % 2∧l.getD j 0<256:=by have h1:=Au (m:=l) (k:=j) (by omega) h;rw[aE (by omega)] at h1;omega
def gC (l x:List Nat):Prop:=∃ j,1≤j∧j≤l.length∧x=l.take j∧strip x=strip l
theorem gC.start {l:List Nat} (h:0<l.length):gC l l:=⟨l.length,h,aq _,by simp,rfl⟩
theorem gC.next {l x:List Nat} {m:Nat} (h:gC l x) (hx:x.length=m+1) (hm:0<m) (h0:x.getD m 0=48):gC l (x.take m):=by
 obtain⟨j,h1,h2,rfl,h4⟩:=h;rw[aR] at hx;obtain rfl:j=m+1:=by omega
 refine⟨m,hm,by omega,by rw[oX,dB (by omega)],?_⟩;rw[←h4]
 have e:l.take (m+1)=l.take m++[48]:=by rw[jY (by omega)];rw[az,dP,aQ (by omega),←az] at h0;rw[h0]
 rw[e,uw,aQ rfl]
 congr 1
 rw[dh (by rw[aR];omega),oX,Nat.min_self]
theorem gC.done {l x:List Nat} {m:Nat} (h:gC l x) (hx:x.length=m+1) (h0:x.getD m 0≠48):x=strip l:=by
 obtain⟨j,h1,h2,h3,h4⟩:=h;rw[←h4]
 have e:x=x.take m++[x.getD m 0]:=by have:=jY (l:=x) (k:=m) (by omega);rw[aE (by omega)] at this;exact this
 rw[e,uw];rw[←e,aJ h0]
theorem gC.one {l x:List Nat} (h:gC l x) (hx:x.length=1) (hl:l.getD 0 0≠48):x=strip l:=by refine h.done (m:=0) hx ?_;obtain⟨j,h1,h2,rfl,h4⟩:=h;rw[az,dP,aQ (by omega),←az];exact hl
theorem Qm {s:ByteArray} {u k:Nat} {p:Int} (hd:xH s) (hs:s.size=k) (hk:1≤k) (ht:Top u p) (hf:gO u (p-k) (cX (bl s))):bl s=ddg (cX (bl s)):=by obtain⟨j,rfl⟩:∃ j,k=j+1:=⟨k-1,by omega⟩;have h1:=iE ht hf hk;exact Fp hd (by rw[aL,hs]) (by simpa using h1.1)
theorem Qn {s t:ByteArray} {u k:Nat} {p:Int} (hd:xH t) (hs:s.size=k) (hk:1≤k) (ht:Top u p) (hf:gO u (p-k) (cX (bl s))) (hn:cX (bl t)=cX (bl s)+1)
  (hz:t.size=s.size∨t.size=s.size+1∧cX (bl s)+1=10 ^ s.size):bl t=ddg (cX (bl t)):=by
 obtain⟨j,rfl⟩:∃ j,k=j+1:=⟨k-1,by omega⟩;have h1:=iE ht hf hk;rw[cW] at h1
 rcases hz with h|⟨h,h2⟩
 ·exact Fp hd (by rw[aL,h,hs]) (by omega)
 ·exact Fp (k:=j+1) hd (by rw[aL,h,hs]) (by rw[hn,h2,hs];exact aq _)
set_option maxRecDepth 100000 in
theorem z8 (u:Nat) (w:World) (h0:0<u) (hu:u<cD):
  Calls Tryz.prog 47 #[.int .u64 u] w (Cb u w):=by
 have hub:u<9223372036854775808:=eI hu (by decide);obtain⟨b1,_,b3⟩:=Ge u hub;have b2:=Rc hu;have c1:=Bh u w hub;have cA:Hid (∀ y d q W,Num .u64 W y d→d<Bs ^ KB→-900≤q→q≤900→Calls Tryz.prog 84 #[.int .u64 (pM u),.int .i64 (pE u),y,.int .i64 q] W (lj (agL (pM u) (pE u) q) (agR d (pE u) q) W)):=aj fun y d q W h hd h1 h2=>sX _ _ y d q W (by omega) (by omega) (by omega) h1 h2 h hd
 have cB:Hid (∀ y d q W,Num .u64 W y d→d<Bs ^ KB→-900≤q→q≤900→Calls Tryz.prog 84 #[.int .u64 (pM u),.int .i64 (pE u+1),y,.int .i64 q] W (lj (agL (pM u) (pE u+1) q) (agR d (pE u+1) q) W)):=aj fun y d q W h hd h1 h2=>sX _ _ y d q W (by omega) (by omega) (by omega) h1 h2 h hd
 have hR:Hid (∀ d q,(agL (pM u) (pE u) q<agR d (pE u) q↔V u*cC q<cN d q)):=aj fun d q=>(GQ u d q).1
 have hT:Hid (∀ d q,(agL (pM u) (pE u+1) q<agR d (pE u+1) q↔2*(V u*cC q)<cN d q)∧(agR d (pE u+1) q<agL (pM u) (pE u+1) q↔cN d q<2*(V u*cC q))):=aj fun d q=>SI u d q
 obtain⟨M,hM⟩:∃ M,pM u=M:=⟨_,rfl⟩;obtain⟨E,hE⟩:∃ M,pE u=M:=⟨_,rfl⟩;rw[hM,hE] at c1 cA cB hR hT;rw[hE] at b1 b2;rw[hM] at b3;have H0:=aj h0;have HU:=aj hu;clear hM hE h0 hu;go_enter Tryz.func47,Tryz.ntmps47
 go_wp2_with fail
 refine c1.mono ?_;clear c1;rintro e w1 ⟨rfl,rfl⟩;go_wp2_with fail
 go_loopw [6] (fun v wr=>∃ (p:Int),v=.int .i64 p∧-330≤p∧p≤400∧Hid (cN 1 (p-1)≤V u*cC (p-1))∧Hid (Below w1.heap.size w1 wr)) (fun v _=>(401-intOf v).toNat)
 case atStart=>exact⟨-330,rfl,by omega,by omega,aj (Hk H0.out),aj (Below.refl _ _)⟩
 case round=>
  obtain⟨p,rfl,hp1,hp2,hlo,hB⟩:=hrel;go_wp2_with fail
  refine(ofR 1 _ (by decide)).mono ?_;rintro e w2 ⟨y,rfl,hy,hb2⟩;have Y2:=aj hy;have B2:=aj (hB.out.trans (hb2.mono hB.out.size));clear hy hb2;go_wp2_with fail
  refine(cA.out y 1 p _ Y2.out (ub (by decide)) (by omega) (by omega)).mono ?_;rintro e w3 ⟨r,rfl,hr1,hr2,hb3⟩;have R1:=aj (hr1.trans (hR.out _ _));have B3:=aj (B2.out.trans (hb3.mono B2.out.size));clear hr1 hr2 hb3 Y2 B2 hB
  by_cases hge:0≤r
  ·have hnl:Hid (¬V u*cC p<cN 1 p):=aj (fun h=>by have:=R1.out.mpr h;omega)
   have hp3:p<400:=by
    by_cases hh:p<400
    ·exact hh
    ·exact absurd (RX HU.out (by omega)) hnl.out
   have hlo2:Hid (cN 1 (p+1-1)≤V u*cC (p+1-1)):=aj (by rw[show p+1-1=p by omega];exact dS hnl.out);go_wp2_with fail
   go_roundw
   case rel=>exact⟨p+1,by go_num,by omega,by omega,hlo2,B3⟩
   case measure=>simp[intOf];omega
  ·have TP:Hid (Top u p):=aj ⟨hlo.out,R1.out.mp (by omega)⟩;have HT2:=aj TP.out.2;clear R1 hlo;go_wp2_with fail
   go_loopw [7] (fun kv wr=>∃ (j:Nat),kv=.int .i64 ((j:Int)+1)∧j≤16∧Hid (Quiet u p (j+1))∧Hid (Below w1.heap.size w1 wr)) (fun kv _=>20-(intOf kv).toNat)
   case atStart=>exact⟨0,rfl,by decide,aj (fun j h1 h2=>by omega),B3⟩
   case round=>
    clear B3;obtain⟨j,rfl,hj,hQ,hB⟩:=hrel;have hle:((j:Int)+1≤17):=by omega
    have hle2:decide ((j:Int)+1≤17)=true:=fY hle;obtain⟨J,hJ⟩:∃ J:Nat,j+1=J:=⟨_,rfl⟩;have hk1:(j:Int)+1=(J:Int):=by omega
    have HJ:=aj hJ;have YE:J≤17:=by omega
    have Aq:1≤J:=by omega
    rw[hJ] at hQ;clear hJ;go_wp2_with fail
    with_reducible refine(Si u p J _ HU.out (by omega) hp2 YE HT2.out).mono ?_
    rintro e w4 ⟨s,rfl,hs,hd,hf,hb4⟩;have Lg:s.size≤100:=by omega
    have HD:=aj hd;have HS:=aj hs;have qO:=aj hf;have B4:=aj (hB.out.trans (hb4.mono hB.out.size));clear hs hd hf hb4 hB;go_wp2_with fail
    refine(upR s _ HD.out Lg).mono ?_;rintro e w5 ⟨t,rfl,htd,htn,htz,hb5⟩;have Uv:t.size≤100:=by have:=HS.out;omega
    have Zl:=aj htd;have Vt:=aj htn;have HTZ:=aj htz;have B5:=aj (B4.out.trans (hb5.mono B4.out.size));clear htd htn htz hb5 B4;have hLk:Hid (cX (bl s)<Bs ^ KB):=aj (yl (k:=(bl s).length) (by rw[aL];omega) (kD _ HD.out));have hHk:Hid (cX (bl t)<Bs ^ KB):=aj (yl (k:=(bl t).length) (by rw[aL];omega) (kD _ Zl.out));obtain⟨q,hq⟩:∃ q,p-(J:Int)=q:=⟨_,rfl⟩;have hq1:-900≤q:=by omega
    have hq2:q≤900:=by omega
    have HQ:=aj hq;go_wp2_with fail
    refine(AS s _ HD.out Lg).mono ?_;rintro e w6 ⟨y6,rfl,Wa,hb6⟩;have Y6:=aj Wa;have B6:=aj (B5.out.trans (hb6.mono B5.out.size));clear Wa hb6 B5;go_wp2_with fail
    refine(FL _ _ q u _ H0.out HU.out hq1 hq2 Y6.out hLk.out).mono ?_;rintro e w7 ⟨x1,rfl,hx1,Jg⟩;have X1:=aj hx1;have B7:=aj (B6.out.trans (Jg.mono B6.out.size));clear hx1 Jg B6 Y6;go_wp2_with fail
    refine(AS t _ Zl.out Uv).mono ?_;rintro e w8 ⟨y8,rfl,V3,Cp⟩;have Y8:=aj V3;have B8:=aj (B7.out.trans (Cp.mono B7.out.size));clear V3 Cp B7;go_wp2_with fail
    refine(FL _ _ q u _ H0.out HU.out hq1 hq2 Y8.out hHk.out).mono ?_;rintro e w9 ⟨x2,rfl,hx2,im⟩;rw[Vt.out] at hx2;have X2:=aj hx2;have B9:=aj (B8.out.trans (im.mono B8.out.size));clear hx2 im B8 Y8;have G4:Hid (gO u q (cX (bl s))):=aj (by rw[←HQ.out];exact qO.out);have Jj:Hid (bl s=ddg (cX (bl s))):=aj (Qm HD.out HS.out Aq TP.out qO.out);have Zs:Hid (bl t=ddg (cX (bl t))):=aj (Qn Zl.out HS.out Aq TP.out qO.out Vt.out HTZ.out)
    rcases x1 with _|_
    ·rcases x2 with _|_
     ·have pX:Hid (Quiet u p (J+1)):=aj (hQ.out.next (L:=cX (bl s)) qO.out (by rw[HQ.out];exact Gb X1.out X2.out rfl rfl));have hj2:J≤16:=by have:=yx H0.out TP.out pX.out;omega
      go_wp2_with fail
      go_roundw
      case rel=>exact⟨J,by go_num,hj2,pX,B9⟩
      case measure=>simp[intOf];omega
     ·have HP:Hid (Pk u q (cX (bl s)) (some (cX (bl t)))):=aj (by rw[Vt.out];exact Pj X1.out X2.out rfl rfl);obtain⟨D,uI⟩:∃ D,cX (bl t)=D:=⟨_,rfl⟩;have xX:=aj uI;have zw:Hid (bl t=ddg D):=aj (by rw[←uI];exact Zs.out);have jK:Hid (Pk u q (cX (bl s)) (some D)):=aj (by rw[←uI];exact HP.out);clear uI HP;have hop:0<t.size:=by rw[←aL,zw.out];exact iH D
      have tj:Hid (t.size=(ddg D).length):=aj (by rw[←aL,zw.out])
      have MF:Hid ((ddg D).getD 0 0≠48):=aj (oQ (by
       have h1:=(iE TP.out qO.out Aq).1;have h2:=qX jK.out;have h3:0<10 ^ (J-1):=bf (by decide)
       omega))
      obtain⟨n,hn⟩:∃ n,t.size=n:=⟨_,rfl⟩;have HN:=aj hn;have hn1:1≤n:=by omega
      have hn2:n≤101:=by omega
      clear hn hop;go_wp2_with fail
      try clear Lo
      try clear Fh Ts
      rw[HN.out]
      go_loopw [14] (fun ov wr=>∃ (x:ByteArray) (m:Nat),ov=.string x∧x.size=m+1∧m≤101∧Hid (gC (ddg D) (bl x))∧Hid (Below w1.heap.size w1 wr)) (fun ov _=>match ov with|.string x=>x.size|_=>0)
      case atStart=>exact⟨t,n-1,rfl,by have:=HN.out;omega,by omega,aj (by rw[zw.out];exact gC.start (iH D)),B9⟩
      case round=>
       obtain⟨x,m,rfl,hx,hm,hSR,xh⟩:=hrel;have HX:=aj hx;have hlt:m<x.size:=by omega
       have hat:=qD x m hlt;obtain⟨c,hc⟩:∃ c,(bl x).getD m 0=c:=⟨_,rfl⟩;rw[hc] at hat;have HC:=aj hc;have vW:Hid ((bl x).length=m+1):=aj (by rw[aL];exact hx);have hxs:x.size≤102:=by omega
       clear hc
       by_cases hm0:0<m
       ·obtain⟨m,rfl⟩:∃ z,m=z+1:=⟨m-1,by omega⟩
        by_cases hcc:c=48
        ·subst hcc;have hex:bl (x.extract 0 (m+1))=(bl x).take (m+1):=by rw[cI];simp
         have hes:(x.extract 0 (m+1)).size=m+1:=by rw[←aL,hex,aR,vW.out];omega
         have Cj:=aj hes;have pX:Hid (gC (ddg D) (bl (x.extract 0 (m+1)))):=aj (by rw[hex];exact hSR.out.next vW.out hm0 HC.out);clear hex hes;go_wp2_with fail
         go_roundw
         case rel=>exact⟨_,m,rfl,Cj.out,by omega,pX,xh⟩
         case measure=>simp only[];have:=Cj.out;have:=HX.out;omega
        ·have hcz:((c:Int) == 48)=false:=by simp;omega
         have xx:Hid (bl x=strip (ddg D)):=aj (hSR.out.done vW.out (by rw[HC.out];exact hcc));clear hcc;go_wp2_with fail
         go_ret2
         exact⟨_,_,rfl,⟨p,J,cX (bl s),D,Aq,TP.out,hQ.out,by rw[HQ.out];exact G4.out,by rw[HQ.out];exact jK.out,xx.out,by have:=tj.out;have:=HN.out;omega⟩,xh.out⟩
       ·obtain rfl:m=0:=by omega
        have xx:Hid (bl x=strip (ddg D)):=aj (hSR.out.one vW.out MF.out);go_wp2_with fail
        go_ret2
        exact⟨_,_,rfl,⟨p,J,cX (bl s),D,Aq,TP.out,hQ.out,by rw[HQ.out];exact G4.out,by rw[HQ.out];exact jK.out,xx.out,by have:=tj.out;have:=HN.out;omega⟩,xh.out⟩
    ·rcases x2 with _|_
     ·have HP:Hid (Pk u q (cX (bl s)) (some (cX (bl s)))):=aj (Ph X1.out X2.out rfl rfl);obtain⟨D,uI⟩:∃ D,cX (bl s)=D:=⟨_,rfl⟩;have xX:=aj uI;have zw:Hid (bl s=ddg D):=aj (by rw[←uI];exact Jj.out);have jK:Hid (Pk u q (cX (bl s)) (some D)):=aj (by rw[←uI];exact HP.out);clear uI HP;have hop:0<s.size:=by rw[←aL,zw.out];exact iH D
      have tj:Hid (s.size=(ddg D).length):=aj (by rw[←aL,zw.out])
      have MF:Hid ((ddg D).getD 0 0≠48):=aj (oQ (by
       have h1:=(iE TP.out qO.out Aq).1;have h2:=qX jK.out;have h3:0<10 ^ (J-1):=bf (by decide)
       omega))
      obtain⟨n,hn⟩:∃ n,s.size=n:=⟨_,rfl⟩;have HN:=aj hn;have hn1:1≤n:=by omega
      have hn2:n≤101:=by omega
      clear hn hop;go_wp2_with fail
      try clear Lo
      try clear Fh Ts
      rw[HN.out]
      go_loopw [14] (fun ov wr=>∃ (x:ByteArray) (m:Nat),ov=.string x∧x.size=m+1∧m≤101∧Hid (gC (ddg D) (bl x))∧Hid (Below w1.heap.size w1 wr)) (fun ov _=>match ov with|.string x=>x.size|_=>0)
      case atStart=>exact⟨s,n-1,rfl,by have:=HN.out;omega,by omega,aj (by rw[zw.out];exact gC.start (iH D)),B9⟩
      case round=>
       obtain⟨x,m,rfl,hx,hm,hSR,xh⟩:=hrel;have HX:=aj hx;have hlt:m<x.size:=by omega
       have hat:=qD x m hlt;obtain⟨c,hc⟩:∃ c,(bl x).getD m 0=c:=⟨_,rfl⟩;rw[hc] at hat;have HC:=aj hc;have vW:Hid ((bl x).length=m+1):=aj (by rw[aL];exact hx);have hxs:x.size≤102:=by omega
       clear hc
       by_cases hm0:0<m
       ·obtain⟨m,rfl⟩:∃ z,m=z+1:=⟨m-1,by omega⟩
        by_cases hcc:c=48
        ·subst hcc;have hex:bl (x.extract 0 (m+1))=(bl x).take (m+1):=by rw[cI];simp
         have hes:(x.extract 0 (m+1)).size=m+1:=by rw[←aL,hex,aR,vW.out];omega
         have Cj:=aj hes;have pX:Hid (gC (ddg D) (bl (x.extract 0 (m+1)))):=aj (by rw[hex];exact hSR.out.next vW.out hm0 HC.out);clear hex hes;go_wp2_with fail
         go_roundw
         case rel=>exact⟨_,m,rfl,Cj.out,by omega,pX,xh⟩
         case measure=>simp only[];have:=Cj.out;have:=HX.out;omega
        ·have hcz:((c:Int) == 48)=false:=by simp;omega
         have xx:Hid (bl x=strip (ddg D)):=aj (hSR.out.done vW.out (by rw[HC.out];exact hcc));clear hcc;go_wp2_with fail
         go_ret2
         exact⟨_,_,rfl,⟨p,J,cX (bl s),D,Aq,TP.out,hQ.out,by rw[HQ.out];exact G4.out,by rw[HQ.out];exact jK.out,xx.out,by have:=tj.out;have:=HN.out;omega⟩,xh.out⟩
       ·obtain rfl:m=0:=by omega
        have xx:Hid (bl x=strip (ddg D)):=aj (hSR.out.one vW.out MF.out);go_wp2_with fail
        go_ret2
        exact⟨_,_,rfl,⟨p,J,cX (bl s),D,Aq,TP.out,hQ.out,by rw[HQ.out];exact G4.out,by rw[HQ.out];exact jK.out,xx.out,by have:=tj.out;have:=HN.out;omega⟩,xh.out⟩
     ·have NN:=aj (And.intro (X1.out.1 rfl) (X2.out.1 rfl));clear X1 X2;go_wp2_with fail
      with_reducible refine(AS s _ HD.out Lg).mono ?_
      rintro e wa ⟨ya,rfl,hya,hba⟩;have YA:=aj hya;have BA:=aj (B9.out.trans (hba.mono B9.out.size));clear hya hba B9;go_wp2_with fail
      refine(yk _ _ 2 1 _ YA.out (by decide) (by decide) (by decide) (aP hLk.out kbc)).mono ?_;rintro e wb ⟨yb,rfl,hyb,hbb⟩;have YB:=aj hyb;have BB:=aj (BA.out.trans (hbb.mono BA.out.size));clear hyb hbb BA YA
      have se:Hid (cX (bl s)*2+1<Bs ^ KB):=aj (yl (k:=100) (by omega) (by
       have h1:=kD _ HD.out;rw[aL,HS.out] at h1;have h2:10 ^ J≤10 ^ 99:=aS (by decide) (by omega);have h3:(10:Nat) ^ 100=10*10 ^ 99:=by decide
       have h4:0<(10:Nat) ^ 99:=by decide
       rw[h3];generalize (10:Nat) ^ 99=T at h2 h4 ⊢
       omega))
      go_wp2_with fail
      with_reducible refine(cB.out yb (cX (bl s)*2+1) q _ YB.out se.out hq1 hq2).mono ?_
      rintro e wc ⟨r2,rfl,hr1,hr2,hbc⟩;have BC:=aj (BB.out.trans (hbc.mono BB.out.size));have RA:=aj (And.intro (hr1.trans (hT.out _ _).1) (hr2.trans (hT.out _ _).2));have hcm:cX (bl s)*2+1=2*cX (bl s)+1:=by omega
      rw[hcm] at RA;clear hr1 hr2 hbc BB YB hcm;have hidx:j<s.size:=by have:=HS.out;have:=HJ.out;omega
      have Fh:=qD s j hidx;have hpar:=KT (l:=bl s) (j:=j) (by rw[aL,HJ.out];exact HS.out) HD.out;obtain⟨cL,hcL⟩:∃ c,(bl s).getD j 0=c:=⟨_,rfl⟩;rw[hcL] at Fh hpar;have ab4:cL<256:=hpar.2;have FG:=aj hpar.1;have Ts:(J:Int)-1=(j:Int):=by have:=HJ.out;omega
      clear hcL hpar
      rcases dy r2 0 with hr|hr|hr
      ·have HP:Hid (Pk u q (cX (bl s)) (some (cX (bl s)))):=aj (qY NN.out.1 NN.out.2 (fun h=>by have:=RA.out.1.mp hr;omega));obtain⟨D,uI⟩:∃ D,cX (bl s)=D:=⟨_,rfl⟩;have xX:=aj uI;have zw:Hid (bl s=ddg D):=aj (by rw[←uI];exact Jj.out);have jK:Hid (Pk u q (cX (bl s)) (some D)):=aj (by rw[←uI];exact HP.out);clear uI HP;have hop:0<s.size:=by rw[←aL,zw.out];exact iH D
       have tj:Hid (s.size=(ddg D).length):=aj (by rw[←aL,zw.out])
       have MF:Hid ((ddg D).getD 0 0≠48):=aj (oQ (by
        have h1:=(iE TP.out qO.out Aq).1;have h2:=qX jK.out;have h3:0<10 ^ (J-1):=bf (by decide)
        omega))
       obtain⟨n,hn⟩:∃ n,s.size=n:=⟨_,rfl⟩;have HN:=aj hn;have hn1:1≤n:=by omega
       have hn2:n≤101:=by omega
       clear hn hop;go_wp2_with fail
       try clear Lo
       try clear Fh Ts
       rw[HN.out]
       go_loopw [14] (fun ov wr=>∃ (x:ByteArray) (m:Nat),ov=.string x∧x.size=m+1∧m≤101∧Hid (gC (ddg D) (bl x))∧Hid (Below w1.heap.size w1 wr)) (fun ov _=>match ov with|.string x=>x.size|_=>0)
       case atStart=>exact⟨s,n-1,rfl,by have:=HN.out;omega,by omega,aj (by rw[zw.out];exact gC.start (iH D)),BC⟩
       case round=>
        obtain⟨x,m,rfl,hx,hm,hSR,xh⟩:=hrel;have HX:=aj hx;have hlt:m<x.size:=by omega
        have hat:=qD x m hlt;obtain⟨c,hc⟩:∃ c,(bl x).getD m 0=c:=⟨_,rfl⟩;rw[hc] at hat;have HC:=aj hc;have vW:Hid ((bl x).length=m+1):=aj (by rw[aL];exact hx);have hxs:x.size≤102:=by omega
        clear hc
        by_cases hm0:0<m
        ·obtain⟨m,rfl⟩:∃ z,m=z+1:=⟨m-1,by omega⟩
         by_cases hcc:c=48
         ·subst hcc;have hex:bl (x.extract 0 (m+1))=(bl x).take (m+1):=by rw[cI];simp
          have hes:(x.extract 0 (m+1)).size=m+1:=by rw[←aL,hex,aR,vW.out];omega
          have Cj:=aj hes;have pX:Hid (gC (ddg D) (bl (x.extract 0 (m+1)))):=aj (by rw[hex];exact hSR.out.next vW.out hm0 HC.out);clear hex hes;go_wp2_with fail
          go_roundw
          case rel=>exact⟨_,m,rfl,Cj.out,by omega,pX,xh⟩
          case measure=>simp only[];have:=Cj.out;have:=HX.out;omega
         ·have hcz:((c:Int) == 48)=false:=by simp;omega
          have xx:Hid (bl x=strip (ddg D)):=aj (hSR.out.done vW.out (by rw[HC.out];exact hcc));clear hcc;go_wp2_with fail
          go_ret2
          exact⟨_,_,rfl,⟨p,J,cX (bl s),D,Aq,TP.out,hQ.out,by rw[HQ.out];exact G4.out,by rw[HQ.out];exact jK.out,xx.out,by have:=tj.out;have:=HN.out;omega⟩,xh.out⟩
        ·obtain rfl:m=0:=by omega
         have xx:Hid (bl x=strip (ddg D)):=aj (hSR.out.one vW.out MF.out);go_wp2_with fail
         go_ret2
         exact⟨_,_,rfl,⟨p,J,cX (bl s),D,Aq,TP.out,hQ.out,by rw[HQ.out];exact G4.out,by rw[HQ.out];exact jK.out,xx.out,by have:=tj.out;have:=HN.out;omega⟩,xh.out⟩
      ·subst hr
       have VR:Hid (cN (2*cX (bl s)+1) q=2*(V u*cC q)):=aj (by
        have h1:¬2*(V u*cC q)<cN (2*cX (bl s)+1) q:=fun h=>by have:=RA.out.1.mpr h;omega
        have h2:¬cN (2*cX (bl s)+1) q<2*(V u*cC q):=fun h=>by have:=RA.out.2.mpr h;omega
        omega)
       rcases dK cL with hm|hm
       ·have HP:Hid (Pk u q (cX (bl s)) (some (cX (bl s)))):=aj (qY NN.out.1 NN.out.2 (fun h=>by have:=VR.out;have:=FG.out;omega));have Lo:(cL:Int) % 2=0:=by omega
        obtain⟨D,uI⟩:∃ D,cX (bl s)=D:=⟨_,rfl⟩;have xX:=aj uI;have zw:Hid (bl s=ddg D):=aj (by rw[←uI];exact Jj.out);have jK:Hid (Pk u q (cX (bl s)) (some D)):=aj (by rw[←uI];exact HP.out);clear uI HP;have hop:0<s.size:=by rw[←aL,zw.out];exact iH D
        have tj:Hid (s.size=(ddg D).length):=aj (by rw[←aL,zw.out])
        have MF:Hid ((ddg D).getD 0 0≠48):=aj (oQ (by
         have h1:=(iE TP.out qO.out Aq).1;have h2:=qX jK.out;have h3:0<10 ^ (J-1):=bf (by decide)
         omega))
        obtain⟨n,hn⟩:∃ n,s.size=n:=⟨_,rfl⟩;have HN:=aj hn;have hn1:1≤n:=by omega
        have hn2:n≤101:=by omega
        clear hn hop;go_wp2_with fail
        try clear Lo
        try clear Fh Ts
        rw[HN.out]
        go_loopw [14] (fun ov wr=>∃ (x:ByteArray) (m:Nat),ov=.string x∧x.size=m+1∧m≤101∧Hid (gC (ddg D) (bl x))∧Hid (Below w1.heap.size w1 wr)) (fun ov _=>match ov with|.string x=>x.size|_=>0)
        case atStart=>exact⟨s,n-1,rfl,by have:=HN.out;omega,by omega,aj (by rw[zw.out];exact gC.start (iH D)),BC⟩
        case round=>
         obtain⟨x,m,rfl,hx,hm,hSR,xh⟩:=hrel;have HX:=aj hx;have hlt:m<x.size:=by omega
         have hat:=qD x m hlt;obtain⟨c,hc⟩:∃ c,(bl x).getD m 0=c:=⟨_,rfl⟩;rw[hc] at hat;have HC:=aj hc;have vW:Hid ((bl x).length=m+1):=aj (by rw[aL];exact hx);have hxs:x.size≤102:=by omega
         clear hc
         by_cases hm0:0<m
         ·obtain⟨m,rfl⟩:∃ z,m=z+1:=⟨m-1,by omega⟩
          by_cases hcc:c=48
          ·subst hcc;have hex:bl (x.extract 0 (m+1))=(bl x).take (m+1):=by rw[cI];simp
           have hes:(x.extract 0 (m+1)).size=m+1:=by rw[←aL,hex,aR,vW.out];omega
           have Cj:=aj hes;have pX:Hid (gC (ddg D) (bl (x.extract 0 (m+1)))):=aj (by rw[hex];exact hSR.out.next vW.out hm0 HC.out);clear hex hes;go_wp2_with fail
           go_roundw
           case rel=>exact⟨_,m,rfl,Cj.out,by omega,pX,xh⟩
           case measure=>simp only[];have:=Cj.out;have:=HX.out;omega
          ·have hcz:((c:Int) == 48)=false:=by simp;omega
           have xx:Hid (bl x=strip (ddg D)):=aj (hSR.out.done vW.out (by rw[HC.out];exact hcc));clear hcc;go_wp2_with fail
           go_ret2
           exact⟨_,_,rfl,⟨p,J,cX (bl s),D,Aq,TP.out,hQ.out,by rw[HQ.out];exact G4.out,by rw[HQ.out];exact jK.out,xx.out,by have:=tj.out;have:=HN.out;omega⟩,xh.out⟩
         ·obtain rfl:m=0:=by omega
          have xx:Hid (bl x=strip (ddg D)):=aj (hSR.out.one vW.out MF.out);go_wp2_with fail
          go_ret2
          exact⟨_,_,rfl,⟨p,J,cX (bl s),D,Aq,TP.out,hQ.out,by rw[HQ.out];exact G4.out,by rw[HQ.out];exact jK.out,xx.out,by have:=tj.out;have:=HN.out;omega⟩,xh.out⟩
       ·have HP:Hid (Pk u q (cX (bl s)) (some (cX (bl t)))):=aj (by rw[Vt.out];exact qZ NN.out.1 NN.out.2 (.inr ⟨VR.out,by have:=FG.out;omega⟩));have Lo:(cL:Int) % 2=1:=by omega
        obtain⟨D,uI⟩:∃ D,cX (bl t)=D:=⟨_,rfl⟩;have xX:=aj uI;have zw:Hid (bl t=ddg D):=aj (by rw[←uI];exact Zs.out);have jK:Hid (Pk u q (cX (bl s)) (some D)):=aj (by rw[←uI];exact HP.out);clear uI HP;have hop:0<t.size:=by rw[←aL,zw.out];exact iH D
        have tj:Hid (t.size=(ddg D).length):=aj (by rw[←aL,zw.out])
        have MF:Hid ((ddg D).getD 0 0≠48):=aj (oQ (by
         have h1:=(iE TP.out qO.out Aq).1;have h2:=qX jK.out;have h3:0<10 ^ (J-1):=bf (by decide)
         omega))
        obtain⟨n,hn⟩:∃ n,t.size=n:=⟨_,rfl⟩;have HN:=aj hn;have hn1:1≤n:=by omega
        have hn2:n≤101:=by omega
        clear hn hop;go_wp2_with fail
        try clear Lo
        try clear Fh Ts
        rw[HN.out]
        go_loopw [14] (fun ov wr=>∃ (x:ByteArray) (m:Nat),ov=.string x∧x.size=m+1∧m≤101∧Hid (gC (ddg D) (bl x))∧Hid (Below w1.heap.size w1 wr)) (fun ov _=>match ov with|.string x=>x.size|_=>0)
        case atStart=>exact⟨t,n-1,rfl,by have:=HN.out;omega,by omega,aj (by rw[zw.out];exact gC.start (iH D)),BC⟩
        case round=>
         obtain⟨x,m,rfl,hx,hm,hSR,xh⟩:=hrel;have HX:=aj hx;have hlt:m<x.size:=by omega
         have hat:=qD x m hlt;obtain⟨c,hc⟩:∃ c,(bl x).getD m 0=c:=⟨_,rfl⟩;rw[hc] at hat;have HC:=aj hc;have vW:Hid ((bl x).length=m+1):=aj (by rw[aL];exact hx);have hxs:x.size≤102:=by omega
         clear hc
         by_cases hm0:0<m
         ·obtain⟨m,rfl⟩:∃ z,m=z+1:=⟨m-1,by omega⟩
          by_cases hcc:c=48
          ·subst hcc;have hex:bl (x.extract 0 (m+1))=(bl x).take (m+1):=by rw[cI];simp
           have hes:(x.extract 0 (m+1)).size=m+1:=by rw[←aL,hex,aR,vW.out];omega
           have Cj:=aj hes;have pX:Hid (gC (ddg D) (bl (x.extract 0 (m+1)))):=aj (by rw[hex];exact hSR.out.next vW.out hm0 HC.out);clear hex hes;go_wp2_with fail
           go_roundw
           case rel=>exact⟨_,m,rfl,Cj.out,by omega,pX,xh⟩
           case measure=>simp only[];have:=Cj.out;have:=HX.out;omega
          ·have hcz:((c:Int) == 48)=false:=by simp;omega
           have xx:Hid (bl x=strip (ddg D)):=aj (hSR.out.done vW.out (by rw[HC.out];exact hcc));clear hcc;go_wp2_with fail
           go_ret2
           exact⟨_,_,rfl,⟨p,J,cX (bl s),D,Aq,TP.out,hQ.out,by rw[HQ.out];exact G4.out,by rw[HQ.out];exact jK.out,xx.out,by have:=tj.out;have:=HN.out;omega⟩,xh.out⟩
         ·obtain rfl:m=0:=by omega
          have xx:Hid (bl x=strip (ddg D)):=aj (hSR.out.one vW.out MF.out);go_wp2_with fail
          go_ret2
          exact⟨_,_,rfl,⟨p,J,cX (bl s),D,Aq,TP.out,hQ.out,by rw[HQ.out];exact G4.out,by rw[HQ.out];exact jK.out,xx.out,by have:=tj.out;have:=HN.out;omega⟩,xh.out⟩
      ·have HP:Hid (Pk u q (cX (bl s)) (some (cX (bl t)))):=aj (by rw[Vt.out];exact qZ NN.out.1 NN.out.2 (.inl (RA.out.2.mp hr)));obtain⟨D,uI⟩:∃ D,cX (bl t)=D:=⟨_,rfl⟩;have xX:=aj uI;have zw:Hid (bl t=ddg D):=aj (by rw[←uI];exact Zs.out);have jK:Hid (Pk u q (cX (bl s)) (some D)):=aj (by rw[←uI];exact HP.out);clear uI HP;have hop:0<t.size:=by rw[←aL,zw.out];exact iH D
       have tj:Hid (t.size=(ddg D).length):=aj (by rw[←aL,zw.out])
       have MF:Hid ((ddg D).getD 0 0≠48):=aj (oQ (by
        have h1:=(iE TP.out qO.out Aq).1;have h2:=qX jK.out;have h3:0<10 ^ (J-1):=bf (by decide)
        omega))
       obtain⟨n,hn⟩:∃ n,t.size=n:=⟨_,rfl⟩;have HN:=aj hn;have hn1:1≤n:=by omega
       have hn2:n≤101:=by omega
       clear hn hop;go_wp2_with fail
       try clear Lo
       try clear Fh Ts
       rw[HN.out]
       go_loopw [14] (fun ov wr=>∃ (x:ByteArray) (m:Nat),ov=.string x∧x.size=m+1∧m≤101∧Hid (gC (ddg D) (bl x))∧Hid (Below w1.heap.size w1 wr)) (fun ov _=>match ov with|.string x=>x.size|_=>0)
       case atStart=>exact⟨t,n-1,rfl,by have:=HN.out;omega,by omega,aj (by rw[zw.out];exact gC.start (iH D)),BC⟩
       case round=>
        obtain⟨x,m,rfl,hx,hm,hSR,xh⟩:=hrel;have HX:=aj hx;have hlt:m<x.size:=by omega
        have hat:=qD x m hlt;obtain⟨c,hc⟩:∃ c,(bl x).getD m 0=c:=⟨_,rfl⟩;rw[hc] at hat;have HC:=aj hc;have vW:Hid ((bl x).length=m+1):=aj (by rw[aL];exact hx);have hxs:x.size≤102:=by omega
        clear hc
        by_cases hm0:0<m
        ·obtain⟨m,rfl⟩:∃ z,m=z+1:=⟨m-1,by omega⟩
         by_cases hcc:c=48
         ·subst hcc;have hex:bl (x.extract 0 (m+1))=(bl x).take (m+1):=by rw[cI];simp
          have hes:(x.extract 0 (m+1)).size=m+1:=by rw[←aL,hex,aR,vW.out];omega
          have Cj:=aj hes;have pX:Hid (gC (ddg D) (bl (x.extract 0 (m+1)))):=aj (by rw[hex];exact hSR.out.next vW.out hm0 HC.out);clear hex hes;go_wp2_with fail
          go_roundw
          case rel=>exact⟨_,m,rfl,Cj.out,by omega,pX,xh⟩
          case measure=>simp only[];have:=Cj.out;have:=HX.out;omega
         ·have hcz:((c:Int) == 48)=false:=by simp;omega
          have xx:Hid (bl x=strip (ddg D)):=aj (hSR.out.done vW.out (by rw[HC.out];exact hcc));clear hcc;go_wp2_with fail
          go_ret2
          exact⟨_,_,rfl,⟨p,J,cX (bl s),D,Aq,TP.out,hQ.out,by rw[HQ.out];exact G4.out,by rw[HQ.out];exact jK.out,xx.out,by have:=tj.out;have:=HN.out;omega⟩,xh.out⟩
        ·obtain rfl:m=0:=by omega
         have xx:Hid (bl x=strip (ddg D)):=aj (hSR.out.one vW.out MF.out);go_wp2_with fail
         go_ret2
         exact⟨_,_,rfl,⟨p,J,cX (bl s),D,Aq,TP.out,hQ.out,by rw[HQ.out];exact G4.out,by rw[HQ.out];exact jK.out,xx.out,by have:=tj.out;have:=HN.out;omega⟩,xh.out⟩
end fl
end Go.Proofs.YthpdlidbaojlbaaGreatDoor
