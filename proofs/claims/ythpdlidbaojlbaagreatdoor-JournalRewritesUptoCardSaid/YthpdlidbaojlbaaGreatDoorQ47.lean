/- JournalRewrites: what the library answers, out of its tables -/
import Derived.Test.YthpdlidbaojlbaaGreatDoorQ46
set_option linter.unusedVariables false
set_option linter.unusedSimpArgs false
set_option maxHeartbeats 4000000
open Go.ChangeShapes Go.WideShapes Go.ChangeAt Go.RowKit
namespace Go.Proofs.YthpdlidbaojlbaaGreatDoor
namespace fl
theorem LV (W:World) (g:Nat) (D:Int) (b:UInt8) (hD:D=(b.toNat:Int)) (hc:W.cell? ⟨g,0,none⟩=some (.int .u8 D)):
  Sem.run Tryz.prog (convert 147 9 (.slice (some ⟨g,0,none⟩) 1 1)) W=.ok (.string ⟨#[b]⟩) W:=by
 have h:=js (P:=Tryz.prog) W 147 9 5 ⟨g,0,none⟩ 1 [b] Tryz.underlying147 Tryz.underlying5 Tryz.underlying9 (fun j hj=>by
  have hj0:j=0:=by simpa using hj
  subst hj0;have hadd:(⟨g,0,none⟩:Addr).add 0=⟨g,0,none⟩:=by unfold Addr.add;split<;>simp_all
  rw[hadd,hc]
  simp[hD])
 exact h
theorem L9 {w W w1:World} (h0:Below w.heap.size w W) (hb:Below W.heap.size W w1):Below w.heap.size w w1:=h0.trans (hb.mono h0.size)
theorem BW (b:UInt8):bl ⟨#[b]⟩=[b.toNat]:=rfl
theorem JF (b:UInt8):(⟨#[b]⟩:ByteArray).size=1:=rfl
set_option maxRecDepth 100000 in
theorem Pe:∀ (k n:Nat),n<10 ^ (k+1)→k≤5→∀ w,Calls Tryz.prog 49 #[.int .i64 n] w (jT (ddg n) w):=by
 intro k
 induction k with
 | zero=>
  intro n hn hk w;rw[bD,ke] at hn;obtain⟨b,hb⟩:=xV (n+48) (by omega);have hcv:=Ay w (48+(n:Int)) b (by rw[hb];omega);have HB:=aj hb;have HL:=aj (mG hn);clear hb hk;go_enter Tryz.func49,Tryz.ntmps49
  go_wp2_with fail
  go_ret;exact⟨_,rfl,by rw[BW,HB.out,HL.out],by rw[JF];decide,(Below.refl w.heap.size w).alloc (aq _) _⟩
 | succ k ih=>
  intro n hn hk w
  by_cases h10:n<10
  ·exact ih n (aP h10 (by rw[Nat.pow_succ];have:=bf (n:=k) (show 0<10 by decide);omega)) (by omega) w
  ·have hq:n / 10<10 ^ (k+1):=by rw[gw (by decide)];rw[Nat.pow_succ] at hn;exact hn
   have hb6:n<10000000:=by
    have:10 ^ (k+1+1)≤10 ^ 7:=aS (by decide) (by omega);have h7:(10:Nat) ^ 7=10000000:=by decide
    omega
   obtain⟨q,hqq⟩:∃ q,n / 10=q:=⟨_,rfl⟩;obtain⟨r,hrr⟩:∃ r,n % 10=r:=⟨_,rfl⟩;have hr:r≤9:=by omega
   obtain⟨b,hb⟩:=xV (r+48) (by omega);have hq8:q<10000000:=by omega
   have e1:IntKind.i64.wrap ((n:Int) / 10)=(q:Int):=by rw[show(n:Int) / 10=((n / 10:Nat):Int) by omega,hqq];exact kt _ (by omega)
   have e2:(n:Int).tmod 10=(r:Int):=by rw[ik (by omega)];omega
   have ci:Hid (∀ W,Calls Tryz.prog 49 #[.int .i64 q] W (jT (ddg q) W)):=aj (fun W=>ih q (by rw[←hqq];exact hq) (by omega) W);have HL:Hid (ddg n=ddg q++[r+48]):=aj (by rw[tM h10,hqq,hrr]);have e3:IntKind.i64.wrap (48+(r:Int))=48+(r:Int):=kt _ (by omega);have e4:IntKind.u8.wrap (48+(r:Int))=48+(r:Int):=IntWalk.u8_in _ (by omega);have hcv:=fun W=>Ay W (48+(r:Int)) b (by rw[hb];omega)
   have UQ:=fun(W:World)=>LV (W.alloc (.cells #[.int .u8 (48+(r:Int))] 5)).drew W.heap.size (48+(r:Int)) b (by rw[hb];omega) (by simp)
   have HB:=aj hb;have zx:Hid (48+(r:Int)=(b.toNat:Int)):=aj (by rw[hb];omega);clear ih hn hk hq hqq hrr hb;go_enter Tryz.func49,Tryz.ntmps49
   go_wp2_with fail
   go_region_with (go_at_call 49;refine(ci.out _).mono ?_;rintro e w1 ⟨t,rfl,ht,hts,hb1⟩;have hcw:=fun h1 h2=>LV w1 w.heap.size (48+(r:Int)) b zx.out ((hb1.cell (p:=⟨w.heap.size,0,none⟩) h1).trans h2))
   all_goals
    have HQ:=L9 (w:=w) (by go_grown) hb1;have HT:=aj ht;have Jb:=aj HQ;have I7:=aj (HQ.alloc HQ.size (.cells #[.int .u8 (48+(r:Int))] 5));clear hcw hcv UQ HQ ht hb1;go_wp2_with fail
    go_ret;refine⟨_,rfl,by rw[da,HT.out,BW,HB.out,HL.out],?_,?_⟩
    ·have h3:(ddg q).length≤8:=oP (k:=7) (eI hq8 (by decide));have h4:t.size≤8:=by rw[←aL,HT.out];exact h3
     simp only[bJ,JF];omega
    ·first
      | exact Jb.out
      | exact I7.out
      | exact I7.out.drew
      | exact Jb.out.drew
theorem vq (n:Nat) (w:World) (hn:n≤500):Calls Tryz.prog 48 #[.int .i64 n] w (jT (List.replicate n 48) w):=by refine(Ko n w (by omega)).mono ?_;rintro e w' ⟨t,rfl,h1,hb⟩;exact⟨t,rfl,h1,by rw[←aL,h1,dj];omega,hb⟩
theorem Ao (s:ByteArray) (h:s.size=1):bl (s.extract 0 1)=bl (sJ s):=by rw[vB,aJ (by rw[aL];omega),cI,dE,aE (by rw[aL];omega)]
theorem An (s:ByteArray) (h:1<s.size):bl (s.extract 0 1)++([46]++bl (s.extract 1 s.size))=bl (sJ s):=by unfold sJ;rw[aQ h,da,da,jx,aD]
theorem LI {d:ByteArray} {p:Int} {M:Nat} (hp:p < -4∨17<p) (hM:max (p-1) (1-p)=M):
  tT (bl d) p=bl (sJ d)++[101,if p<1 then 45 else 43]++(if M<10 then [48] else [])++ddg M:=by
 have xA:=Gp (d:=bl d) hp hM
 rwa [←vB] at xA
set_option maxRecDepth 100000 in
theorem ED (z u:Nat) (w:World) (hx2:u<9223372036854775808) (hu:9218868437227405312<u) (HP:Hid (fG z [110,97,110])):
  Calls Tryz.prog 14 #[.float .f64 u] w (lu z w):=by
 have d1:decide ((9223372036854775808:Int)≤(u:Int))=false:=eK (by omega);have d2:decide ((9218868437227405312:Int)<(u:Int))=true:=fY (by omega);clear hx2 hu;have hb:=kC u;go_enter Tryz.func14,Tryz.ntmps14
 go_wp2_with fail
 go_ret;exact⟨_,rfl,HP.out,by decide,Below.refl _ _⟩
set_option maxRecDepth 100000 in
theorem EE (z u:Nat) (w:World) (hx2:u<9223372036854775808) (hu:u=9218868437227405312) (HP:Hid (fG z (sgB false++[105,110,102]))):
  Calls Tryz.prog 14 #[.float .f64 u] w (lu z w):=by
 have d1:decide ((9223372036854775808:Int)≤(u:Int))=false:=eK (by omega);have d2:decide ((9218868437227405312:Int)<(u:Int))=false:=eK (by omega);have d3:((u:Int) == 9218868437227405312)=true:=by simp;omega
 clear hx2 hu;have hb:=kC u;go_enter Tryz.func14,Tryz.ntmps14
 go_wp2_with fail
 go_ret;exact⟨_,rfl,HP.out,by decide,Below.refl _ _⟩
set_option maxRecDepth 100000 in
theorem CO (z u:Nat) (w:World) (hx2:u<9223372036854775808) (hu:u=0) (HP:Hid (fG z (sgB false++[48]))):
  Calls Tryz.prog 14 #[.float .f64 u] w (lu z w):=by
 have d1:decide ((9223372036854775808:Int)≤(u:Int))=false:=eK (by omega);have d2:decide ((9218868437227405312:Int)<(u:Int))=false:=eK (by omega);have d3:((u:Int) == 9218868437227405312)=false:=by simp;omega
 have d4:((u:Int) == 0)=true:=by simp;omega
 clear hx2 hu;have hb:=kC u;go_enter Tryz.func14,Tryz.ntmps14
 go_wp2_with fail
 go_ret;exact⟨_,rfl,HP.out,by decide,Below.refl _ _⟩
set_option maxRecDepth 100000 in
theorem EG (z u:Nat) (w:World) (hx2:u<9223372036854775808) (H0:Hid (0<u)) (HU:Hid (u<cD)) (HP:Hid (∀ d p,Sh u d p→fG z (sgB false++tT d p))):
  Calls Tryz.prog 14 #[.float .f64 u] w (lu z w):=by
 have hu1:0<u:=H0.out;have hu2:u<9218868437227405312:=HU.out;have cS:Hid (∀ W,Calls Tryz.prog 47 #[.int .u64 u] W (Cb u W)):=aj (fun W=>z8 u W H0.out HU.out);have d1:decide ((9223372036854775808:Int)≤(u:Int))=false:=eK (by omega);have d2:decide ((9218868437227405312:Int)<(u:Int))=false:=eK (by omega);have d3:((u:Int) == 9218868437227405312)=false:=by simp;omega
 have d4:((u:Int) == 0)=false:=by simp;omega
 clear hx2;clear hu1 hu2;have hb:=kC u;go_enter Tryz.func14,Tryz.ntmps14
 go_wp2_with fail
 with_reducible refine(cS.out _).mono ?_
 rintro e w1 ⟨d,p,rfl,hs,hb1⟩;have hbd:=FX H0.out HU.out hs;rw[aL] at hbd;obtain⟨q1,q2,q3,q4⟩:=hbd;have HS:=aj (HP.out _ _ hs);have B1:=aj hb1;clear hs hb1 hb cS HP
 by_cases hp:p < -4∨17<p
 ·obtain⟨M,hM⟩:∃ M:Nat,max (p-1) (1-p)=M:=⟨(max (p-1) (1-p)).toNat,by omega⟩;have HL:=aj (LI (d:=d) hp hM);have hM2:M≤1001:=by omega
  have ct:Hid (∀ W,Calls Tryz.prog 49 #[.int .i64 M] W (jT (ddg M) W)):=aj (fun W=>Pe 4 M (cE hM2 (by decide)) (by decide) W);have HM:=aj hM;clear hM
  by_cases h1:1<d.size
  ·rcases hp with hp|hp
   ·by_cases j6:M<10
    ·have hme:1-p=(M:Int):=by have:=HM.out;omega
     have hpe:-(p-1)=(M:Int):=by omega
     go_wp2_with fail
     with_reducible refine(ct.out _).mono ?_
     rintro e w2 ⟨t2,rfl,ht2,hts,hb2⟩;have HT:=aj ht2;have B2:=aj (B1.out.trans (hb2.mono B1.out.size));clear ht2 hb2;go_wp2_with fail
     go_ret;refine⟨_,rfl,?_,?_,B2.out⟩
     ·have h:=HS.out;rw[HL.out,aQ (by omega),aQ j6,←An d h1] at h;simp only[Cz,CA,aD,List.nil_append] at h;simp only[da,HT.out,nu,nt,sW,jx,oe,aD,List.nil_append];exact h
     ·have e1:(d.extract 0 1).size≤21:=by rw[←aL,cI,aR,br,aL];omega
      have e2:(d.extract 1 d.size).size≤21:=by rw[←aL,cI,aR,br,aL];omega
      simp only[bJ,mY,mX,so,oA,nV];omega
    ·have hme:1-p=(M:Int):=by have:=HM.out;omega
     have hpe:-(p-1)=(M:Int):=by omega
     go_wp2_with fail
     with_reducible refine(ct.out _).mono ?_
     rintro e w2 ⟨t2,rfl,ht2,hts,hb2⟩;have HT:=aj ht2;have B2:=aj (B1.out.trans (hb2.mono B1.out.size));clear ht2 hb2;go_wp2_with fail
     go_ret;refine⟨_,rfl,?_,?_,B2.out⟩
     ·have h:=HS.out;rw[HL.out,aQ (by omega),aJ j6,←An d h1] at h;simp only[Cz,CA,aD,List.nil_append] at h;simp only[da,HT.out,nu,nt,sW,jx,oe,aD,List.nil_append];exact h
     ·have e1:(d.extract 0 1).size≤21:=by rw[←aL,cI,aR,br,aL];omega
      have e2:(d.extract 1 d.size).size≤21:=by rw[←aL,cI,aR,br,aL];omega
      simp only[bJ,mY,mX,so,oA,nV];omega
   ·have j6:¬M<10:=by have:=HM.out;omega
    have hpe:p-1=(M:Int):=by have:=HM.out;omega
    go_wp2_with fail
    with_reducible refine(ct.out _).mono ?_
    rintro e w2 ⟨t2,rfl,ht2,hts,hb2⟩;have HT:=aj ht2;have B2:=aj (B1.out.trans (hb2.mono B1.out.size));clear ht2 hb2;go_wp2_with fail
    go_ret;refine⟨_,rfl,?_,?_,B2.out⟩
    ·have h:=HS.out;rw[HL.out,aJ (by omega),aJ j6,←An d h1] at h;simp only[Cz,CA,aD,List.nil_append] at h;simp only[da,HT.out,nu,nt,sW,jx,oe,aD,List.nil_append];exact h
    ·have e1:(d.extract 0 1).size≤21:=by rw[←aL,cI,aR,br,aL];omega
     have e2:(d.extract 1 d.size).size≤21:=by rw[←aL,cI,aR,br,aL];omega
     simp only[bJ,mY,mX,so,oA,nV];omega
  ·rcases hp with hp|hp
   ·by_cases j6:M<10
    ·have hme:1-p=(M:Int):=by have:=HM.out;omega
     have hpe:-(p-1)=(M:Int):=by omega
     go_wp2_with fail
     with_reducible refine(ct.out _).mono ?_
     rintro e w2 ⟨t2,rfl,ht2,hts,hb2⟩;have HT:=aj ht2;have B2:=aj (B1.out.trans (hb2.mono B1.out.size));clear ht2 hb2;go_wp2_with fail
     go_ret;refine⟨_,rfl,?_,?_,B2.out⟩
     ·have h:=HS.out;rw[HL.out,aQ (by omega),aQ j6,←Ao d (by omega)] at h;simp only[Cz,CA,aD,List.nil_append] at h;simp only[da,HT.out,nu,nt,sW,jx,oe,aD,List.nil_append];exact h
     ·have e1:(d.extract 0 1).size≤21:=by rw[←aL,cI,aR,br,aL];omega
      have e2:(d.extract 1 d.size).size≤21:=by rw[←aL,cI,aR,br,aL];omega
      simp only[bJ,mY,mX,so,oA,nV];omega
    ·have hme:1-p=(M:Int):=by have:=HM.out;omega
     have hpe:-(p-1)=(M:Int):=by omega
     go_wp2_with fail
     with_reducible refine(ct.out _).mono ?_
     rintro e w2 ⟨t2,rfl,ht2,hts,hb2⟩;have HT:=aj ht2;have B2:=aj (B1.out.trans (hb2.mono B1.out.size));clear ht2 hb2;go_wp2_with fail
     go_ret;refine⟨_,rfl,?_,?_,B2.out⟩
     ·have h:=HS.out;rw[HL.out,aQ (by omega),aJ j6,←Ao d (by omega)] at h;simp only[Cz,CA,aD,List.nil_append] at h;simp only[da,HT.out,nu,nt,sW,jx,oe,aD,List.nil_append];exact h
     ·have e1:(d.extract 0 1).size≤21:=by rw[←aL,cI,aR,br,aL];omega
      have e2:(d.extract 1 d.size).size≤21:=by rw[←aL,cI,aR,br,aL];omega
      simp only[bJ,mY,mX,so,oA,nV];omega
   ·have j6:¬M<10:=by have:=HM.out;omega
    have hpe:p-1=(M:Int):=by have:=HM.out;omega
    go_wp2_with fail
    with_reducible refine(ct.out _).mono ?_
    rintro e w2 ⟨t2,rfl,ht2,hts,hb2⟩;have HT:=aj ht2;have B2:=aj (B1.out.trans (hb2.mono B1.out.size));clear ht2 hb2;go_wp2_with fail
    go_ret;refine⟨_,rfl,?_,?_,B2.out⟩
    ·have h:=HS.out;rw[HL.out,aJ (by omega),aJ j6,←Ao d (by omega)] at h;simp only[Cz,CA,aD,List.nil_append] at h;simp only[da,HT.out,nu,nt,sW,jx,oe,aD,List.nil_append];exact h
    ·have e1:(d.extract 0 1).size≤21:=by rw[←aL,cI,aR,br,aL];omega
     have e2:(d.extract 1 d.size).size≤21:=by rw[←aL,cI,aR,br,aL];omega
     simp only[bJ,mY,mX,so,oA,nV];omega
 ·have r1:-4≤p:=by omega
  have r2:p≤17:=by omega
  clear hp
  by_cases hz:p≤0
  ·obtain⟨n,hn⟩:∃ n:Nat,-p=n:=⟨(-p).toNat,by omega⟩;have HL:=aj (KS (d:=bl d) r1 hz);have HN:=aj hn;have cr:Hid (∀ W,Calls Tryz.prog 48 #[.int .i64 n] W (jT (List.replicate n 48) W)):=aj (fun W=>vq n W (by omega));go_wp2_with fail
   with_reducible refine(cr.out _).mono ?_
   rintro e w2 ⟨t2,rfl,ht2,hts,hb2⟩;have HT:=aj ht2;have B2:=aj (B1.out.trans (hb2.mono B1.out.size));clear ht2 hb2;go_wp2_with fail
   go_ret;refine⟨_,rfl,?_,?_,B2.out⟩
   ·have h:=HS.out;rw[HL.out,HN.out,Int.toNat_natCast] at h;simp only[Cz,CA,aD,List.nil_append] at h;simp only[da,HT.out,GM,oe,aD,List.nil_append];exact h
   ·simp only[bJ,FV,nV];omega
  ·by_cases hc:(d.size:Int)≤p
   ·obtain⟨n,hn⟩:∃ n:Nat,p-(d.size:Int)=n:=⟨(p-d.size).toNat,by omega⟩;have HL:=aj (KR (d:=bl d) (by omega) r2 (by rw[aL];exact hc));have HN:=aj hn;have cr:Hid (∀ W,Calls Tryz.prog 48 #[.int .i64 n] W (jT (List.replicate n 48) W)):=aj (fun W=>vq n W (by omega));go_wp2_with fail
    with_reducible refine(cr.out _).mono ?_
    rintro e w2 ⟨t2,rfl,ht2,hts,hb2⟩;have HT:=aj ht2;have B2:=aj (B1.out.trans (hb2.mono B1.out.size));clear ht2 hb2;go_wp2_with fail
    go_ret;refine⟨_,rfl,?_,?_,B2.out⟩
    ·have h:=HS.out;rw[HL.out,aL,HN.out,Int.toNat_natCast] at h;simp only[Cz,CA,aD,List.nil_append] at h;simp only[da,HT.out,oe,aD,List.nil_append];exact h
    ·simp only[bJ,nV];omega
   ·have HL:=aj (KQ (d:=bl d) (by omega) r2 (by rw[aL];exact hc));obtain⟨n,rfl⟩:∃ n:Nat,p=n:=⟨p.toNat,by omega⟩;have hns:n<d.size:=by omega
    go_wp2_with fail
    go_quiet (fail)
    go_wp2_with fail
    go_ret;refine⟨_,rfl,?_,?_,B1.out.trans ((cR w1 _).mono B1.out.size)⟩
    ·have h:=HS.out;rw[HL.out,Int.toNat_natCast] at h;simp only[Cz,CA,aD,List.nil_append] at h;have e1:List.take (d.size-n) (List.drop n (bl d))=List.drop n (bl d):=aE (by rw[br,aL];exact aq _);simp only[da,cI,jx,oe,aD,List.nil_append,dE,Nat.sub_zero,e1];exact h
    ·rw[←aL];simp only[da,cI,jx,oe,aM,aR,br,aL,List.length_singleton,List.length_nil];omega
set_option maxRecDepth 100000 in
theorem EH (z u:Nat) (x:Nat) (w:World) (hx1:9223372036854775808≤x) (hx2:x<18446744073709551616) (hsub:(x:Int)-9223372036854775808=u) (hu:9218868437227405312<u) (HP:Hid (fG z [110,97,110])):
  Calls Tryz.prog 14 #[.float .f64 x] w (lu z w):=by
 have d1:decide ((9223372036854775808:Int)≤(x:Int))=true:=fY (by omega);have hw:IntKind.u64.wrap ((x:Int)-9223372036854775808)=(u:Int):=by rw[hsub];exact gM _ (by omega)
 have hw2:((x:Int)-9223372036854775808) % 18446744073709551616=(u:Int):=by omega
 have d2:decide ((9218868437227405312:Int)<(u:Int))=true:=fY (by omega);clear hx1 hx2 hu;have hb:=kC x;go_enter Tryz.func14,Tryz.ntmps14
 go_wp2_with fail
 go_ret;exact⟨_,rfl,HP.out,by decide,Below.refl _ _⟩
set_option maxRecDepth 100000 in
theorem EI (z u:Nat) (x:Nat) (w:World) (hx1:9223372036854775808≤x) (hx2:x<18446744073709551616) (hsub:(x:Int)-9223372036854775808=u) (hu:u=9218868437227405312) (HP:Hid (fG z (sgB true++[105,110,102]))):
  Calls Tryz.prog 14 #[.float .f64 x] w (lu z w):=by
 have d1:decide ((9223372036854775808:Int)≤(x:Int))=true:=fY (by omega);have hw:IntKind.u64.wrap ((x:Int)-9223372036854775808)=(u:Int):=by rw[hsub];exact gM _ (by omega)
 have hw2:((x:Int)-9223372036854775808) % 18446744073709551616=(u:Int):=by omega
 have d2:decide ((9218868437227405312:Int)<(u:Int))=false:=eK (by omega);have d3:((u:Int) == 9218868437227405312)=true:=by simp;omega
 clear hx1 hx2 hu;have hb:=kC x;go_enter Tryz.func14,Tryz.ntmps14
 go_wp2_with fail
 go_ret;exact⟨_,rfl,HP.out,by decide,Below.refl _ _⟩
set_option maxRecDepth 100000 in
theorem CP (z u:Nat) (x:Nat) (w:World) (hx1:9223372036854775808≤x) (hx2:x<18446744073709551616) (hsub:(x:Int)-9223372036854775808=u) (hu:u=0) (HP:Hid (fG z (sgB true++[48]))):
  Calls Tryz.prog 14 #[.float .f64 x] w (lu z w):=by
 have d1:decide ((9223372036854775808:Int)≤(x:Int))=true:=fY (by omega);have hw:IntKind.u64.wrap ((x:Int)-9223372036854775808)=(u:Int):=by rw[hsub];exact gM _ (by omega)
 have hw2:((x:Int)-9223372036854775808) % 18446744073709551616=(u:Int):=by omega
 have d2:decide ((9218868437227405312:Int)<(u:Int))=false:=eK (by omega);have d3:((u:Int) == 9218868437227405312)=false:=by simp;omega
 have d4:((u:Int) == 0)=true:=by simp;omega
 clear hx1 hx2 hu;have hb:=kC x;go_enter Tryz.func14,Tryz.ntmps14
 go_wp2_with fail
 go_ret;exact⟨_,rfl,HP.out,by decide,Below.refl _ _⟩
set_option maxRecDepth 100000 in
theorem EJ (z u:Nat) (x:Nat) (w:World) (hx1:9223372036854775808≤x) (hx2:x<18446744073709551616) (hsub:(x:Int)-9223372036854775808=u) (H0:Hid (0<u)) (HU:Hid (u<cD)) (HP:Hid (∀ d p,Sh u d p→fG z (sgB true++tT d p))):
  Calls Tryz.prog 14 #[.float .f64 x] w (lu z w):=by
 have hu1:0<u:=H0.out;have hu2:u<9218868437227405312:=HU.out;have cS:Hid (∀ W,Calls Tryz.prog 47 #[.int .u64 u] W (Cb u W)):=aj (fun W=>z8 u W H0.out HU.out);have d1:decide ((9223372036854775808:Int)≤(x:Int))=true:=fY (by omega);have hw:IntKind.u64.wrap ((x:Int)-9223372036854775808)=(u:Int):=by rw[hsub];exact gM _ (by omega)
 have hw2:((x:Int)-9223372036854775808) % 18446744073709551616=(u:Int):=by omega
 have d2:decide ((9218868437227405312:Int)<(u:Int))=false:=eK (by omega);have d3:((u:Int) == 9218868437227405312)=false:=by simp;omega
 have d4:((u:Int) == 0)=false:=by simp;omega
 clear hx1 hx2;clear hu1 hu2;have hb:=kC x;go_enter Tryz.func14,Tryz.ntmps14
 go_wp2_with fail
 with_reducible refine(cS.out _).mono ?_
 rintro e w1 ⟨d,p,rfl,hs,hb1⟩;have hbd:=FX H0.out HU.out hs;rw[aL] at hbd;obtain⟨q1,q2,q3,q4⟩:=hbd;have HS:=aj (HP.out _ _ hs);have B1:=aj hb1;clear hs hb1 hb cS HP
 by_cases hp:p < -4∨17<p
 ·obtain⟨M,hM⟩:∃ M:Nat,max (p-1) (1-p)=M:=⟨(max (p-1) (1-p)).toNat,by omega⟩;have HL:=aj (LI (d:=d) hp hM);have hM2:M≤1001:=by omega
  have ct:Hid (∀ W,Calls Tryz.prog 49 #[.int .i64 M] W (jT (ddg M) W)):=aj (fun W=>Pe 4 M (cE hM2 (by decide)) (by decide) W);have HM:=aj hM;clear hM
  by_cases h1:1<d.size
  ·rcases hp with hp|hp
   ·by_cases j6:M<10
    ·have hme:1-p=(M:Int):=by have:=HM.out;omega
     have hpe:-(p-1)=(M:Int):=by omega
     go_wp2_with fail
     with_reducible refine(ct.out _).mono ?_
     rintro e w2 ⟨t2,rfl,ht2,hts,hb2⟩;have HT:=aj ht2;have B2:=aj (B1.out.trans (hb2.mono B1.out.size));clear ht2 hb2;go_wp2_with fail
     go_ret;refine⟨_,rfl,?_,?_,B2.out⟩
     ·have h:=HS.out;rw[HL.out,aQ (by omega),aQ j6,←An d h1] at h;simp only[Cz,CA,aD,List.nil_append] at h;simp only[da,HT.out,nu,nt,sW,jx,lU,aD,List.nil_append];exact h
     ·have e1:(d.extract 0 1).size≤21:=by rw[←aL,cI,aR,br,aL];omega
      have e2:(d.extract 1 d.size).size≤21:=by rw[←aL,cI,aR,br,aL];omega
      simp only[bJ,mY,mX,so,oA,lG];omega
    ·have hme:1-p=(M:Int):=by have:=HM.out;omega
     have hpe:-(p-1)=(M:Int):=by omega
     go_wp2_with fail
     with_reducible refine(ct.out _).mono ?_
     rintro e w2 ⟨t2,rfl,ht2,hts,hb2⟩;have HT:=aj ht2;have B2:=aj (B1.out.trans (hb2.mono B1.out.size));clear ht2 hb2;go_wp2_with fail
     go_ret;refine⟨_,rfl,?_,?_,B2.out⟩
     ·have h:=HS.out;rw[HL.out,aQ (by omega),aJ j6,←An d h1] at h;simp only[Cz,CA,aD,List.nil_append] at h;simp only[da,HT.out,nu,nt,sW,jx,lU,aD,List.nil_append];exact h
     ·have e1:(d.extract 0 1).size≤21:=by rw[←aL,cI,aR,br,aL];omega
      have e2:(d.extract 1 d.size).size≤21:=by rw[←aL,cI,aR,br,aL];omega
      simp only[bJ,mY,mX,so,oA,lG];omega
   ·have j6:¬M<10:=by have:=HM.out;omega
    have hpe:p-1=(M:Int):=by have:=HM.out;omega
    go_wp2_with fail
    with_reducible refine(ct.out _).mono ?_
    rintro e w2 ⟨t2,rfl,ht2,hts,hb2⟩;have HT:=aj ht2;have B2:=aj (B1.out.trans (hb2.mono B1.out.size));clear ht2 hb2;go_wp2_with fail
    go_ret;refine⟨_,rfl,?_,?_,B2.out⟩
    ·have h:=HS.out;rw[HL.out,aJ (by omega),aJ j6,←An d h1] at h;simp only[Cz,CA,aD,List.nil_append] at h;simp only[da,HT.out,nu,nt,sW,jx,lU,aD,List.nil_append];exact h
    ·have e1:(d.extract 0 1).size≤21:=by rw[←aL,cI,aR,br,aL];omega
     have e2:(d.extract 1 d.size).size≤21:=by rw[←aL,cI,aR,br,aL];omega
     simp only[bJ,mY,mX,so,oA,lG];omega
  ·rcases hp with hp|hp
   ·by_cases j6:M<10
    ·have hme:1-p=(M:Int):=by have:=HM.out;omega
     have hpe:-(p-1)=(M:Int):=by omega
     go_wp2_with fail
     with_reducible refine(ct.out _).mono ?_
     rintro e w2 ⟨t2,rfl,ht2,hts,hb2⟩;have HT:=aj ht2;have B2:=aj (B1.out.trans (hb2.mono B1.out.size));clear ht2 hb2;go_wp2_with fail
     go_ret;refine⟨_,rfl,?_,?_,B2.out⟩
     ·have h:=HS.out;rw[HL.out,aQ (by omega),aQ j6,←Ao d (by omega)] at h;simp only[Cz,CA,aD,List.nil_append] at h;simp only[da,HT.out,nu,nt,sW,jx,lU,aD,List.nil_append];exact h
     ·have e1:(d.extract 0 1).size≤21:=by rw[←aL,cI,aR,br,aL];omega
      have e2:(d.extract 1 d.size).size≤21:=by rw[←aL,cI,aR,br,aL];omega
      simp only[bJ,mY,mX,so,oA,lG];omega
    ·have hme:1-p=(M:Int):=by have:=HM.out;omega
     have hpe:-(p-1)=(M:Int):=by omega
     go_wp2_with fail
     with_reducible refine(ct.out _).mono ?_
     rintro e w2 ⟨t2,rfl,ht2,hts,hb2⟩;have HT:=aj ht2;have B2:=aj (B1.out.trans (hb2.mono B1.out.size));clear ht2 hb2;go_wp2_with fail
     go_ret;refine⟨_,rfl,?_,?_,B2.out⟩
     ·have h:=HS.out;rw[HL.out,aQ (by omega),aJ j6,←Ao d (by omega)] at h;simp only[Cz,CA,aD,List.nil_append] at h;simp only[da,HT.out,nu,nt,sW,jx,lU,aD,List.nil_append];exact h
     ·have e1:(d.extract 0 1).size≤21:=by rw[←aL,cI,aR,br,aL];omega
      have e2:(d.extract 1 d.size).size≤21:=by rw[←aL,cI,aR,br,aL];omega
      simp only[bJ,mY,mX,so,oA,lG];omega
   ·have j6:¬M<10:=by have:=HM.out;omega
    have hpe:p-1=(M:Int):=by have:=HM.out;omega
    go_wp2_with fail
    with_reducible refine(ct.out _).mono ?_
    rintro e w2 ⟨t2,rfl,ht2,hts,hb2⟩;have HT:=aj ht2;have B2:=aj (B1.out.trans (hb2.mono B1.out.size));clear ht2 hb2;go_wp2_with fail
    go_ret;refine⟨_,rfl,?_,?_,B2.out⟩
    ·have h:=HS.out;rw[HL.out,aJ (by omega),aJ j6,←Ao d (by omega)] at h;simp only[Cz,CA,aD,List.nil_append] at h;simp only[da,HT.out,nu,nt,sW,jx,lU,aD,List.nil_append];exact h
    ·have e1:(d.extract 0 1).size≤21:=by rw[←aL,cI,aR,br,aL];omega
     have e2:(d.extract 1 d.size).size≤21:=by rw[←aL,cI,aR,br,aL];omega
     simp only[bJ,mY,mX,so,oA,lG];omega
 ·have r1:-4≤p:=by omega
  have r2:p≤17:=by omega
  clear hp
  by_cases hz:p≤0
  ·obtain⟨n,hn⟩:∃ n:Nat,-p=n:=⟨(-p).toNat,by omega⟩;have HL:=aj (KS (d:=bl d) r1 hz);have HN:=aj hn;have cr:Hid (∀ W,Calls Tryz.prog 48 #[.int .i64 n] W (jT (List.replicate n 48) W)):=aj (fun W=>vq n W (by omega));go_wp2_with fail
   with_reducible refine(cr.out _).mono ?_
   rintro e w2 ⟨t2,rfl,ht2,hts,hb2⟩;have HT:=aj ht2;have B2:=aj (B1.out.trans (hb2.mono B1.out.size));clear ht2 hb2;go_wp2_with fail
   go_ret;refine⟨_,rfl,?_,?_,B2.out⟩
   ·have h:=HS.out;rw[HL.out,HN.out,Int.toNat_natCast] at h;simp only[Cz,CA,aD,List.nil_append] at h;simp only[da,HT.out,GM,lU,aD,List.nil_append];exact h
   ·simp only[bJ,FV,lG];omega
  ·by_cases hc:(d.size:Int)≤p
   ·obtain⟨n,hn⟩:∃ n:Nat,p-(d.size:Int)=n:=⟨(p-d.size).toNat,by omega⟩;have HL:=aj (KR (d:=bl d) (by omega) r2 (by rw[aL];exact hc));have HN:=aj hn;have cr:Hid (∀ W,Calls Tryz.prog 48 #[.int .i64 n] W (jT (List.replicate n 48) W)):=aj (fun W=>vq n W (by omega));go_wp2_with fail
    with_reducible refine(cr.out _).mono ?_
    rintro e w2 ⟨t2,rfl,ht2,hts,hb2⟩;have HT:=aj ht2;have B2:=aj (B1.out.trans (hb2.mono B1.out.size));clear ht2 hb2;go_wp2_with fail
    go_ret;refine⟨_,rfl,?_,?_,B2.out⟩
    ·have h:=HS.out;rw[HL.out,aL,HN.out,Int.toNat_natCast] at h;simp only[Cz,CA,aD,List.nil_append] at h;simp only[da,HT.out,lU,aD,List.nil_append];exact h
    ·simp only[bJ,lG];omega
   ·have HL:=aj (KQ (d:=bl d) (by omega) r2 (by rw[aL];exact hc));obtain⟨n,rfl⟩:∃ n:Nat,p=n:=⟨p.toNat,by omega⟩;have hns:n<d.size:=by omega
    go_wp2_with fail
    go_quiet (fail)
    go_wp2_with fail
    go_ret;refine⟨_,rfl,?_,?_,B1.out.trans ((cR w1 _).mono B1.out.size)⟩
    ·have h:=HS.out;rw[HL.out,Int.toNat_natCast] at h;simp only[Cz,CA,aD,List.nil_append] at h;have e1:List.take (d.size-n) (List.drop n (bl d))=List.drop n (bl d):=aE (by rw[br,aL];exact aq _);simp only[da,cI,jx,lU,aD,List.nil_append,dE,Nat.sub_zero,e1];exact h
    ·rw[←aL];simp only[da,cI,jx,lU,aM,aR,br,aL,List.length_singleton,List.length_nil];omega
theorem Nx (x:Nat) (w:World) (hx:x<18446744073709551616):
  Calls Tryz.prog 14 #[.float .f64 x] w (lu x w):=by
 by_cases h:9223372036854775808≤x
 ·obtain⟨u,hu⟩:∃ u,x=9223372036854775808+u:=⟨x-9223372036854775808,by omega⟩;have hu2:u<9223372036854775808:=by omega
  have hs:(x:Int)-9223372036854775808=u:=by omega
  have e:x=sgw true+u:=hu;clear hu
  rcases fH u cD with h1|h1|h1
  ·by_cases h0:u=0
   ·exact CP x u x w h hx hs h0 (aj (by rw[e,h0];exact uz true))
   ·exact EJ x u x w h hx hs (aj (by omega)) (aj h1) (aj (fun d p hd=>by rw[e];exact wB (by omega) h1 hd))
  ·exact EI x u x w h hx hs h1 (aj (by rw[e];exact wA true u h1.symm))
  ·exact EH x u x w h hx hs h1 (aj (by rw[e];exact wy (s:=true) h1 hu2))
 ·have hu2:x<9223372036854775808:=by omega
  obtain⟨z,hz⟩:∃ z,x=z:=⟨_,rfl⟩;have e:z=sgw false+x:=by rw[←hz];exact(bD x).symm
  have key:Calls Tryz.prog 14 #[.float .f64 x] w (lu z w):=by
   rcases fH x cD with h1|h1|h1
   ·by_cases h0:x=0
    ·exact CO z x w hu2 h0 (aj (by rw[e,h0];exact uz false))
    ·exact EG z x w hu2 (aj (by omega)) (aj h1) (aj (fun d p hd=>by rw[e];exact wB (by omega) h1 hd))
   ·exact EE z x w hu2 h1 (aj (by rw[e];exact wA false x h1.symm))
   ·exact ED z x w hu2 h1 (aj (by rw[e];exact wy (s:=false) h1 hu2))
  rw[←hz] at key;exact key
end fl
namespace jw
open ks (af ae)
theorem BW {s t:ByteArray} (h:fl.bl s=fl.bl t):s=t:=by
 unfold fl.bl at h;have h1:s.data.toList=t.data.toList:=List.map_inj_right (fun a b h=>rU.mp h)|>.mp h
 have h2:s.data=t.data:=Array.toList_inj.mp h1
 cases s;cases t
 simp only at h2;rw[h2]
theorem Nz:∃ pr:Nat→ByteArray,∀ x,(pr x).size≤2000∧∀ t,fl.fG x (fl.bl t)→t.size≤2000→t=pr x:=by
 have h:∀ x,∃ p:ByteArray,p.size≤2000∧∀ t,fl.fG x (fl.bl t)→t.size≤2000→t=p:=fun x=>by
  by_cases h:∃ t,fl.fG x (fl.bl t)∧t.size≤2000
  ·obtain⟨p,h1,h2⟩:=h;exact⟨p,h2,fun t h3 _=>BW (h3.unique h1)⟩
  ·exact⟨ByteArray.empty,by decide,fun t h3 h4=>absurd ⟨t,h3,h4⟩ h⟩
 exact⟨fun x=>Classical.choose (h x),fun x=>Classical.choose_spec (h x)⟩
theorem libs {w:World} (hf:fl.ad3 w):∃ pr,uq pr ks.qt w.heap.size w∧Jd pr ks.qt w.heap.size w:=by
 obtain⟨pr,hpr⟩:=Nz
 have hk:∀ {x:Nat} {W:World} {r:Ending} {w':World},fl.lu x W r w'→r=.returned (.string (pr x))∧af [] W w':=by rintro x W r w' ⟨t,rfl,h1,h2,h3⟩;exact⟨by rw[(hpr x).2 t h1 h2],af.fm h3⟩
 exact⟨pr,⟨aq _,fun W hb x hx=>(fl.Q4 x W (hf.on hb) hx).mono fun r w' h=>hk h,fun x _=>(hpr x).1,fun W hb n hn=>ks.Qb n W hn (hf.on hb).tab⟩,
  ⟨aq _,fun W hb x hx=>(fl.Nx x W hx).mono fun r w' h=>hk h,fun x _=>(hpr x).1,fun n _ _=>rfl⟩⟩
end jw
end Go.Proofs.YthpdlidbaojlbaaGreatDoor
