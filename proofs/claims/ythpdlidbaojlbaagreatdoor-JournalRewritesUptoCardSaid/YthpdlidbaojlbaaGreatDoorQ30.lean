/- The document's dictionary: Set of a new key. -/
import Derived.Test.YthpdlidbaojlbaaGreatDoorQ29
set_option linter.unusedVariables false
set_option linter.unusedSimpArgs false
set_option maxHeartbeats 4000000
open Go.ChangeShapes Go.WideShapes Go.RowKit
namespace Go.Proofs.YthpdlidbaojlbaaGreatDoor
namespace jw
open ks (af ae hlt ah bC alloc_old aG aX aT dp)
theorem Sy {a b:Nat} (h0:¬a=0) (hs:a≤10) (h:b=a-1):wrap64 ((a:Int)-1)=(b:Int):=by unfold wrap64;omega
theorem Va {a b:Nat} (h0:¬a=0) (h:b=a-1):(a:Int)-1=(b:Int):=by omega
theorem Lb {a b n:Nat} (h0:a≤n) (hs:n≤2097152) (h:b=a+1):wrap64 ((a:Int)+1)=(b:Int):=by unfold wrap64;omega
set_option maxRecDepth 100000 in
set_option maxHeartbeats 6000000 in
theorem sr (B:Nat) (E:List Nat) (db:Nat) (kl:List ByteArray) (w:World) (h:DcE B E w db kl):
  Calls Tryz.prog 118 #[dp db] w fun e w'=>e=.returned (.tuple #[])∧DcE B E w' db kl∧Sp B E w w':=by
 obtain⟨seed,at_,ov,yv,kv,vv,os,ys,zs,h,hsum⟩:=h;have pV:=ae hsum;have H:=ae h;obtain⟨ya,yc,rfl,_,_,_,hya⟩:=h.aW.row.form;obtain⟨oa,oc,rfl,_,_,_,hoa⟩:=h.old.row.form;obtain⟨ny,hny⟩:∃ n,ys.length=n:=⟨_,rfl⟩;obtain⟨no,hno⟩:∃ n,os.length=n:=⟨_,rfl⟩;rw[hny,hno] at H;have Lk:no≤2097152:=by rw[←hno];exact H.out.on
 have My:=ae hny;have rY:=ae hno;have Mt:=ae hya;have O0:=ae hoa;have c2:=H.out.c2
 by_cases hy0:ny=0
 ·clear h hsum hya hoa hny hno;subst hy0;unfold dp;go_enter Tryz.func118,Tryz.ntmps118
  go_wp2_with fail
  refine gH (kz rfl _ _ _) rfl ?_;exact⟨rfl,⟨_,_,_,_,_,_,_,_,_,H.out,pV.out⟩,Sp.refl _ _ _⟩
 have hy1:¬((ny:Int)=0):=by omega
 clear h hsum hya hoa hny hno;unfold dp;go_enter Tryz.func118,Tryz.ntmps118
 go_upto_block 0 with fail
 clear c2
 go_cut [] (fun wx=>∃ at2:Nat,Hid (Dc B E wx db kl seed at2 (.slice oa no oc) (.slice ya ny yc) kv vv os ys zs∧Sp B E w wx))
 case first=>as_aux_lemma=>
  go_wp2_with fail
  go_loopw [2] (fun lf wr=>∃ Rq at2:Nat,lf=.int .i64 (Rq:Int)∧Rq≤10∧Hid (Dc B E wr db kl seed at2 (.slice oa no oc) (.slice ya ny yc) kv vv os ys zs∧Sp B E w wr)) (fun lf _=>(intOf lf).toNat)
  case atStart=>exact⟨10,at_,rfl,aq _,ae ⟨H.out,Sp.refl _ _ w⟩⟩
  case round=>
   obtain⟨Rq,at2,rfl,hl,HV⟩:=hrel;have c1:=HV.out.1.c1;have c3:=HV.out.1.c3;have hat:at2≤no:=by have:=HV.out.1.uj;have:=rY.out;omega
   have HQ:=ae (show ∀ q,Hid (Dc B E (wr.drewN q) db kl seed at2 (.slice oa no oc) (.slice ya ny yc) kv vv os ys zs∧Sp B E w (wr.drewN q)) from fun q=>ae ⟨HV.out.1.aN ((af.refl _ _).drewN q),HV.out.2.trans (HV.out.1.sp0 ((af.refl [] _).drewN q))⟩)
   by_cases h1:Rq=0
   ·subst h1;go_wp2_with fail
    go_quiet (fail)
    go_wp2_with fail
    go_meet;exact⟨at2,HQ.out _⟩
   ·have g1:decide (0<Rq)=true:=by simp;omega
    by_cases h2:at2=no
    ·have g2:decide (at2<no)=false:=by simp;omega
     have g3:decide ((at2:Int)<(no:Int))=false:=by simp;omega
     go_wp2_with fail
     go_quiet (fail)
     go_wp2_with fail
     go_meet;exact⟨at2,HQ.out _⟩
    ·have h2i:(at2:Int)<(no:Int):=by omega
     have g2:decide (at2<no)=true:=by simp;omega
     have g3:decide ((at2:Int)<(no:Int))=true:=by simp;omega
     obtain⟨x,hx⟩:∃ x,os[at2]?=some x:=⟨_,ag (by rw[rY.out];omega)⟩;obtain⟨g,rfl⟩:=O0.out (by rw[rY.out];omega);have cx:=kP HV.out.1.old hx;obtain⟨xa,xn,xc⟩:=x;simp only at cx;clear hx
     by_cases h3:xn=0
     ·subst h3;obtain⟨a2,ha2⟩:∃ a,a=at2+1:=⟨_,rfl⟩;obtain⟨l2,hl2⟩:∃ l,l=Rq-1:=⟨_,rfl⟩;have hw1:wrap64 ((at2:Int)+1)=(a2:Int):=Lb hat Lk ha2;have hw2:wrap64 ((Rq:Int)-1)=(l2:Int):=Sy h1 hl hl2;have f3:=HV.out.1.fr 3;have HA2:=ae ha2;have HL2:=ae hl2;clear ha2 hl2;go_wp2_with fail
      go_quiet (fail)
      go_wp2_with fail
      go_roundw
      case rel=>
       have hle:at2+1≤os.length:=by rw[rY.out];omega
       refine⟨l2,at2+1,by rw[Va h1 HL2.out],by have:=HL2.out;omega,ae ⟨((HQ.out _).out.1.setAt (at2+1) hle).1,?_⟩⟩;exact(HQ.out _).out.2.trans ((HQ.out _).out.1.qF ((HQ.out _).out.1.setAt (at2+1) hle).2)
      case measure=>have:=HL2.out;simp[intOf];omega
     ·have Wg:¬((xn:Int)=0):=by omega
      go_wp2_with fail
      go_quiet (fail)
      go_wp2_with fail
      go_meet;exact⟨at2,HQ.out _⟩
 case rest=>
  obtain⟨at2,HV⟩:=hcut;have c1:=HV.out.1.c1;have c3:=HV.out.1.c3;have hat:at2≤no:=by have:=HV.out.1.uj;have:=rY.out;omega
  have HQ:=ae (show ∀ q,Hid (Dc B E (wc.drewN q) db kl seed at2 (.slice oa no oc) (.slice ya ny yc) kv vv os ys zs∧Sp B E w (wc.drewN q)) from fun q=>ae ⟨HV.out.1.aN ((af.refl _ _).drewN q),HV.out.2.trans (HV.out.1.sp0 ((af.refl [] _).drewN q))⟩);have abG:(0:Int)<(ny:Int):=by omega
  obtain⟨tc,htc⟩:∃ tc:Bool,tc=(os[at2]?).any (fun x=>decide (0<x.2.1)):=⟨_,rfl⟩;have Zm:=ae htc;clear htc
  go_upto_region 5 with(fail)
  go_cut [72] (fun t wx=>t=.bool tc∧∃ q,wx=wc.drewN q)
  case first=>as_aux_lemma=>
   by_cases h2:at2=no
   ·have HT:=ae (show tc=false by rw[Zm.out,bR (by rw[rY.out];omega)];rfl);have g2:decide (at2<no)=false:=by simp;omega
    have g3:decide ((at2:Int)<(no:Int))=false:=by simp;omega
    go_quiet (fail)
    go_wp2_with fail
    go_meet;exact⟨by rw[HT.out],_,rfl⟩
   ·have h2i:(at2:Int)<(no:Int):=by omega
    have g2:decide (at2<no)=true:=by simp;omega
    have g3:decide ((at2:Int)<(no:Int))=true:=by simp;omega
    obtain⟨x,hx⟩:∃ x,os[at2]?=some x:=⟨_,ag (by rw[rY.out];omega)⟩;obtain⟨g,rfl⟩:=O0.out (by rw[rY.out];omega);have cx:=kP HV.out.1.old hx;have HT:=ae (show tc=decide (0<x.2.1) by rw[Zm.out,hx];rfl);obtain⟨xa,xn,xc⟩:=x;simp only at cx HT;clear hx
    by_cases h3:0<xn
    ·have HT3:=ae (show tc=true by rw[HT.out];simp[h3]);have Wg:(0:Int)<(xn:Int):=by omega
     go_quiet (fail)
     go_wp2_with fail
     go_meet;exact⟨by rw[HT3.out],_,rfl⟩
    ·have HT3:=ae (show tc=false by rw[HT.out];simp[h3]);obtain rfl:xn=0:=by omega
     go_quiet (fail)
     go_wp2_with fail
     go_meet;exact⟨by rw[HT3.out],_,rfl⟩
  case rest=>
   obtain⟨rfl,q,hwq⟩:=hcut;have PL:Hid (Dc B E wc db kl seed at2 (.slice oa no oc) (.slice ya ny yc) kv vv os ys zs∧Sp B E w wc):=by rw[hwq];exact HQ.out q
   clear c1 c3 HV HQ hwq
   go_upto_if 72 with(fail)
   go_cut [] (fun wx=>∃ (at3:Nat) (os3 ys3:List SL),os3.length=no∧ys3.length=ny∧Hid (Dc B E wx db kl seed at3 (.slice oa no oc) (.slice ya ny yc) kv vv os3 ys3 zs∧mx os3+mx ys3≤kl.length∧Sp B E w wx))
   case first=>
    rcases tc with _|_
    ·go_wp2_with fail
     go_meet;exact⟨at2,os,ys,rY.out,My.out,ae ⟨PL.out.1,pV.out,PL.out.2⟩⟩
    ·obtain⟨x,hx,hxp⟩:∃ x,os[at2]?=some x∧0<x.2.1:=by
      have h1:=Zm.out.symm
      cases hx:os[at2]? with
      | none=>rw[hx] at h1;simp at h1
      | some x=>rw[hx] at h1;simp at h1;exact⟨x,rfl,h1⟩
     have h2:at2<no:=by rw[←rY.out];exact(au.1 hx).1
     have h2i:(at2:Int)<(no:Int):=by omega
     obtain⟨g,rfl⟩:=O0.out (by rw[rY.out];omega);obtain⟨yg,rfl⟩:=Mt.out (by rw[My.out];omega);have cx:=kP PL.out.1.old hx;have c1:=PL.out.1.c1;have c3:=PL.out.1.c3;have HX:=ae hx;obtain⟨xa,xn,xc⟩:=x;have HXP:=ae hxp;simp only at cx;clear hx hxp;have I7:=ae (show ∀ n,Hid (Dc B E (wc.drewN n) db kl seed at2 (.slice (some ⟨g,0,none⟩) no oc) (.slice (some ⟨yg,0,none⟩) ny yc) kv vv os ys zs∧Sp B E w (wc.drewN n)) from fun n=>ae ⟨PL.out.1.aN ((af.refl _ _).drewN n),PL.out.2.trans (PL.out.1.sp0 ((af.refl [] _).drewN n))⟩);go_wp2_with fail
     go_quiet (fail)
     go_wp2_with fail
     clear cx c1 c3
     go_loopw [84,4,5] (fun i _ _ wr=>∃ (k:Nat) (ys2:List SL),i=.int .i64 (k:Int)∧k≤xn∧Hid (ys2.length=ny∧Dc B E wr db kl seed at2 (.slice (some ⟨g,0,none⟩) no oc) (.slice (some ⟨yg,0,none⟩) ny yc) kv vv os ys2 zs∧mx ys2=mx ys+k∧Sp B E w wr)) (fun i _ _ _=>xn-(intOf i).toNat)
     case atStart=>exact⟨0,ys,rfl,bz _,ae ⟨My.out,(I7.out _).out.1,rfl,(I7.out _).out.2⟩⟩
     case round=>
      obtain⟨k,ys2,rfl,hk,HV⟩:=hrel;obtain⟨hl2,hD,hS,hBl⟩:=HV.out
      by_cases hlt2:k<xn
      ·obtain⟨l,⟨hl,hls⟩,_⟩:=hD.old.each _ (aB HX.out);obtain⟨sa,Nn,e0,_,_,_,htx⟩:=(hl.row dR.n).texts;have hln:xn=l.length:=by unfold slV at e0;injection e0
       obtain⟨sg,Wz,hsa,hcc⟩:=htx (by omega);have hxa:xa=some ⟨sg,Wz,none⟩:=by unfold slV at e0;injection e0 with e1;rw[←hsa];exact e1
       subst hxa;obtain⟨s,hs⟩:∃ s,l[k]?=some s:=⟨_,ag (by omega)⟩;have hcs:=hcc k s hs;have hss:=hls s (aB hs);have hkn:(k:Int)<(xn:Int):=by omega
       have hxs:xn≤mx os:=uY (aB HX.out);have Lj:ny≤2097152:=by rw[←hl2];exact hD.yn
       have Ye:=hD.kn;have hsum:=pV.out;have c2:=hD.c2;have vV:=ae (Kb db ny yc (some ⟨yg,0,none⟩) seed s wr hD.c0 hD.sd (by unfold maxLen;omega) (by omega) Lj);have HD:=ae hD;have Mx:=ae hS;have Jl:=ae hBl;have HL2:=ae hl2;have tj:=ae hss;have Ta:=ae (show ∀ y:SL,y∈ys2→y.2.1≤1048576 from fun y hy=>by have:=uY hy;omega);unfold dp at vV;have hxn:xn≤1048576:=by omega
       clear hl hls e0 htx hcc hs hD hS hBl hl2 hss hxs Ye hsum hln;go_wp2_with fail
       refine vV.out.mono ?_;rintro r w4 ⟨⟨i,hi,rfl⟩,rfl⟩;obtain⟨y,hy⟩:∃ y,ys2[i]?=some y:=⟨_,ag (by rw[HL2.out];exact hi)⟩;have cy:=kP HD.out.aW hy;obtain⟨l2,⟨yR,Ds⟩,_⟩:=HD.out.aW.each y (aB hy);have G7:=ae (fun W (hk:af [] wr W)=>Fz B s y l2 W (yR.aN hk) (aF HD.out.low hk.size) (by rw[←q8 yR];exact Ta.out y (aB hy)))
       have xu:=ae (fun(W:World) (z:SL) (ho:bF b9 1 9 B W (slV z) (s::l2)) (hnew:∀ b,(slV z).ownBlock=some b→wr.heap.size≤b) (hk:af [] wr W)=>HD.out.Pn hy yR ho hnew hk (fun t ht=>by
        rcases bM.1 ht with rfl|ht
        ·exact tj.out
        ·exact Ds t ht))
       have hin:(i:Int)<(ny:Int):=by omega
       have hc2:=ae (show ∀ W,af [] wr W→W.cell? ⟨db,2,none⟩=some (.slice (some ⟨yg,0,none⟩) ny yc) from fun W hk=>ak hk HD.out.c2);have hcy:=ae (show ∀ W,af [] wr W→W.cell? ⟨yg,i,none⟩=some (.slice y.1 y.2.1 y.2.2) from fun W hk=>ak hk (kP HD.out.aW hy));have Lr:=ae (show ∀ W,af [] wr W→W.frozen? ⟨yg,i,none⟩=false from fun W hk=>(HD.out.aW.row.aN hk).frozen i);clear yR Ds hy vV;obtain⟨y1,y2,y3⟩:=y;unfold slV at G7;simp only at cy G7 hcy;go_wp2_with fail
       have fy:=Lr.out wr (af.refl _ _)
       go_region_law (first|(go_simp;go_at_call 121;refine(G7.out _ ((af.refl _ wr).drew)).mono ?_;rintro r w5 ⟨⟨z1,z2,z3⟩,rfl,ho,hnew,hk5⟩;have mj:af [] wr w5:=((af.refl _ wr).drew).trans hk5;have q2:=hc2.out w5 mj;have qy:=hcy.out w5 mj;have gy:=Lr.out w5 mj;have HO:=ae ho;have Eb:=ae hnew;have zA:=ae mj;clear ho hnew hk5 mj))
       all_goals
        have gA:=ae (xu.out w5 (z1,z2,z3) HO.out Eb.out zA.out);clear q2 qy gy c2 cy fy hcs hc2 hcy Lr G7 xu;go_wp2_with fail
        go_roundw
        case rel=>exact⟨k+1,ys2.set i (z1,z2,z3),by go_num,by omega,ae ⟨by rw[dO];exact HL2.out,gA.out.1,by rw[gA.out.2.1,Mx.out];omega,Jl.out.trans gA.out.2.2⟩⟩
        case measure=>simp[intOf];omega
      ·obtain rfl:k=xn:=by omega
       have HD:=ae hD;have Mx:=ae hS;have Jl:=ae hBl;have HL2:=ae hl2;have c1:=hD.c1;have c3:=hD.c3;have cx:=kP hD.old HX.out;have fx:wr.frozen? ⟨g,at2,none⟩=false:=hD.old.row.frozen at2;simp only at cx;have ZV:=ae (show ∀ W:World,af [] wr W→_ from fun W hk=>(hD.aN hk).cut HX.out);obtain⟨a2,ha2⟩:∃ a,a=at2+1:=⟨_,rfl⟩;have hw1:wrap64 ((at2:Int)+1)=(a2:Int):=Lb hat Lk ha2;have HA2:=ae ha2;have hne1:¬(db=g):=hD.Vb;have hne2:¬(g=db):=fun e=>hne1 e.symm
       have f3:=hD.fr 3;clear hD hS hBl hl2 ha2;go_wp2_with fail
       go_still_tail 9,(by kernel_rfl)
       go_wp2_with fail
       go_meet;have hle:at2+1≤(os.set at2 (none,0,0)).length:=by rw[dO,rY.out];omega
       obtain⟨d1,d2,d3⟩:=ZV.out wr (af.refl _ _);have d4:=d1.aN ((af.refl _ _).drew);obtain⟨e1,e2⟩:=d4.setAt (at2+1) hle;refine⟨at2+1,os.set at2 (none,0,0),ys2,by rw[dO];exact rY.out,HL2.out,ae ⟨e1,?_,((Jl.out.trans d3).trans (d1.sp0 ((af.refl [] _).drew))).trans (d4.qF e2)⟩⟩;have:=Mx.out;have:=pV.out;omega
   case rest=>
    obtain⟨at3,os3,ys3,abT,abS,HW⟩:=hcut;have c1:=HW.out.1.c1;have c2:=HW.out.1.c2;have c3:=HW.out.1.c3;have f1:=HW.out.1.fr 1;have f2:=HW.out.1.fr 2;have f3:=HW.out.1.fr 3;have HD:=ae (show ∀ q,Dc B E (wc.drewN q) db kl seed at3 (.slice oa no oc) (.slice ya ny yc) kv vv os3 ys3 zs from fun q=>HW.out.1.aN ((af.refl _ _).drewN q));have MX:=ae (show ∀ q,Sp B E w (wc.drewN q) from fun q=>HW.out.2.2.trans (HW.out.1.sp0 ((af.refl [] _).drewN q)))
    by_cases h3:at3=no
    ·subst h3;go_wp2_with fail
     go_quiet (fail)
     go_wp2_with fail
     go_end0
     have hk:∀ q,af [db] (wc.drewN q) ((((wc.drewN q).setCell ⟨db,1,none⟩ (.slice ya ny yc)).setCell ⟨db,2,none⟩ (.slice none 0 0)).setCell ⟨db,3,none⟩ (.int .i64 0)):=fun q=>(((af.refl _ _).setCell (p:=⟨db,1,none⟩) (.inl (by simp)) _).setCell (p:=⟨db,2,none⟩) (.inl (by simp)) _).setCell (p:=⟨db,3,none⟩) (.inl (by simp)) _
     refine⟨rfl,⟨_,_,_,_,_,_,_,_,_,(HD.out _).swap (by rw[aX (aX (aX (HD.out _).hd 1 _) 2 _) 3 _];rfl) (hk _),?_⟩,(MX.out _).trans ((HD.out _).qF (hk _))⟩;have:=HW.out.2.1;have e:mx []=0:=rfl;omega
    ·have Wg:¬((at3:Int)=(no:Int)):=by omega
     have h3b:((at3:Int) == (no:Int))=false:=by simp;omega
     go_wp2_with fail
     go_quiet (fail)
     go_wp2_with fail
     go_end0
     exact⟨rfl,⟨_,_,_,_,_,_,_,_,_,HD.out _,HW.out.2.1⟩,MX.out _⟩
theorem Ks (E:List Nat) (seed:Nat) (w:World) (hs:seed<18446744073709551616) (hE:∀ b∈E,b<w.heap.size):Calls Tryz.prog 73 #[.int .u64 (seed:Int)] w fun r w'=>r=.returned (dp w.heap.size)∧DcE w.heap.size E w' w.heap.size []∧af [] w w':=by
 unfold dp;go_enter Tryz.func73,Tryz.ntmps73
 go_wp2
 go_ret;refine⟨rfl,⟨seed,0,.slice none 0 0,.slice none 0 0,.slice none 0 0,.slice none 0 0,[],[],[],⟨aG w _,hs,⟨bF.nil _ _ _ _ _,by simp⟩,⟨bF.nil _ _ _ _ _,by simp⟩,fun b hb=>by simp[Value.ownBlock] at hb,bF.nil _ _ _ _ _,bF.nil _ _ _ _ _,by simp,by simp,by simp,by simp,rfl,aq _,fun b hb=>⟨by have:=hE b hb;simp;omega,by have:=hE b hb;omega,by simp[Value.ownBlock],by simp[Value.ownBlock],by simp[Value.ownBlock],by simp[Value.ownBlock]⟩⟩,by simp[mx]⟩,(af.refl _ w).alloc _⟩
theorem Ly (B:Nat) (E:List Nat) (db:Nat) (kl:List ByteArray) (s:ByteArray) (w:World) (h:DcE B E w db kl) (hs:s∉kl):
  Calls Tryz.prog 74 #[dp db,.string s] w fun r w'=>(∃ u,r=.returned u)∧DcE B E w' db kl∧Sp B E w w':=by
 have HST:=ae (sr B E db kl w h);have HS:=ae hs;unfold dp at HST ⊢;clear h hs;go_enter Tryz.func74,Tryz.ntmps74
 go_wp2_with fail
 refine HST.out.mono ?_;rintro r w1 ⟨rfl,h1,hb1⟩;obtain⟨seed,at_,ov,yv,kv,vv,os,ys,zs,a,b⟩:=id h1;have VM:=ae (La db kv kl s w1 a.c4 (a.keys.row dR.n) a.kn HS.out);have H1:=ae h1;have HB1:=ae hb1;unfold dp at VM;clear a b h1 hb1;go_wp2_with fail
 refine VM.out.mono ?_;rintro r w2 ⟨rfl,rfl⟩;go_wp2_with fail
 go_ret2
 exact⟨⟨_,rfl⟩,H1.out,HB1.out⟩
def yE:SL:=(none,0,0)
theorem Cx (n:Nat):mx (List.replicate n yE)=0:=by
 unfold mx yE
 induction n with
 | zero=>rfl
 | succ n ih=>rw[List.replicate_succ,bP,List.sum_cons,ih]
theorem rS (W:World) (n:Nat) (hn:n≤2097152):(Instr.makeSlice 25 (.int .i64 (n:Int)) (.int .i64 (n:Int))).run Tryz.prog W=.ok (.slice (some ⟨W.heap.size,0,none⟩) n n) (W.alloc (.cells (madeCells (Value.slice none 0 0).cells (n*1)) 32)):=by obtain⟨i9,hi9,iV,iA,im⟩:=cF vz;have:=p7 (P:=Tryz.prog) W 25 32 i9 (.slice none 0 0) Tryz.underlying25 hi9 iV .i64 .i64 (n:Int) (n:Int) (by omega) (nF _) (by rw[iA];simp;omega) (by rw[im];omega) (by omega);simpa[iA] using this
theorem Iv (n:Nat):(madeCells (Value.slice none 0 0).cells (n*1)).toList=(List.replicate n yE).flatMap encS:=by
 rw[LD,oZ];unfold madeCells Value.cells slV yE
 apply dG
 intro i
 by_cases h:i<n
 ·simp[h,nA]
 ·rw[bR (by simp;omega),bR (by simp;omega)]
theorem KI (B:Nat) (W:World) (n:Nat) (hn:n≤2097152) (hB:B≤W.heap.size):bF encS 1 32 B (W.alloc (.cells (madeCells (Value.slice none 0 0).cells (n*1)) 32)) (.slice (some ⟨W.heap.size,0,none⟩) n n) (List.replicate n yE):=by
 have:=bF.vo (enc:=encS) (k:=1) (l:=List.replicate n yE) (cap:=n) (fun _=>rfl) (aG W (.cells (madeCells (Value.slice none 0 0).cells (n*1)) 32)) (by simp) (by unfold maxLen;omega) (by simp[madeCells]) (by
  rw[←Iv];refine aE ?_
  simp[madeCells]) hB
 simpa using this
theorem wZ (B:Nat) (W:World) (n:Nat) (kv:Value) (hn:n≤2097152) (hB:B≤W.heap.size):iz B (W.alloc (.cells (madeCells (Value.slice none 0 0).cells (n*1)) 32)) (.slice (some ⟨W.heap.size,0,none⟩) n n) kv (List.replicate n yE):=
 ⟨KI B W n hn hB,fun x hx=>by
  obtain rfl:=kU hx
  exact⟨[],⟨bF.nil _ _ _ _ _,by simp⟩,fun b hb=>by simp[slV,yE,Value.ownBlock] at hb⟩⟩
end jw
end Go.Proofs.YthpdlidbaojlbaaGreatDoor
