/- The document's value (ref12): Plain. -/
import Derived.Test.YthpdlidbaojlbaaGreatDoorQ36
set_option linter.unusedVariables false
set_option linter.unusedSimpArgs false
set_option maxHeartbeats 4000000
open Go.ChangeShapes Go.WideShapes Go.RowKit
namespace Go.Proofs.YthpdlidbaojlbaaGreatDoor
namespace jw
open ks (af ae hlt ah bC alloc_old aG aX aT dp)
attribute [local go_sem] gR
def Z2 (p:cG) (w:World) (r:Ending) (w':World):Prop:=
 (∃ e:Int,e≠0∧¬OkP p∧r=.returned (.tuple #[.pointer none,.int .i64 e])∧af [] w w')∨
 (OkP p∧∃ vb,r=.returned (.tuple #[dp vb,.int .i64 0])∧Cn w' vb p∧af [] w w')
theorem Ac {α:Type} {f:α→ByteArray} {ps l:List α} {k:Nat} {x:α} (h:ps.Perm (l.take k)) (hx:l[k]?=some x):(rp f ps x).Perm (l.take (k+1)):=by rw[jZ hx];exact((tI f ps x).trans (h.cons x)).trans (fq x _).symm
theorem CS {α:Type} {f:α→ByteArray} {ps l:List α} {k:Nat} {x:α} (h:ps.Perm (l.take k)) (hn:(l.map f).Nodup) (hx:l[k]?=some x):∀ y∈ps,f y≠f x:=fun y hy=>yF hn hx y (h.mem_iff.1 hy)
theorem CT {α:Type} {ps l:List α} {k:Nat} (h:ps.Perm (l.take k)):ps.length≤k:=by rw[h.length_eq,aR];omega
set_option maxRecDepth 100000 in
theorem Uc (p:cG) (iv pv rv:Value) (w:World) (hsm:jz p) (hfl:∀ x∈p.bI,x.2<18446744073709551616) (hi:eh b9 1 w iv p.items) (hp:eh gJ 2 w pv p.bL) (hr:eh dN 2 w rv p.bI):
  Calls Tryz.prog 11 #[.agg #[.int .i64 p.kind,.string p.text,iv,pv,rv],.int .u64 0] w fun r w'=>Z2 p w r w':=by
 obtain⟨W,hW⟩:∃ W,W=w.alloc (.cells #[.int .i64 p.kind,.string p.text,iv,pv,rv] 36):=⟨_,rfl⟩;have hkW:af [] w W:=by rw[hW];exact(af.refl _ w).alloc _
 have hb:W.heap[w.heap.size]?=some (.cells #[.int .i64 p.kind,.string p.text,iv,pv,rv] 36 (0,0)):=by rw[hW];exact aG w _
 have wT:=ae (LZ p iv pv rv W hsm hfl (hi.aN hkW) (hp.aN hkW) (hr.aN hkW));obtain⟨ia,nY,rfl,_,_,_,hia⟩:=hi.texts;obtain⟨pa,pj,rfl,_,_,_,hpa⟩:=hp.bL;obtain⟨ra,qU,rfl,_,_,_,hra⟩:=hr.lN;obtain⟨ni,hni⟩:∃ ni,p.items.length=ni:=⟨_,rfl⟩;obtain⟨np,hnp⟩:∃ np,p.bL.length=np:=⟨_,rfl⟩;obtain⟨nr,hnr⟩:∃ nr,p.bI.length=nr:=⟨_,rfl⟩;obtain⟨kd,hkd⟩:∃ kd,p.kind=kd:=⟨_,rfl⟩;obtain⟨tx,htx⟩:∃ tx,p.text=tx:=⟨_,rfl⟩;rw[hni,hnp,hnr,hkd,htx] at hb wT hW;rw[hni,hnp,hnr,hkd,htx];rw[hni] at hia;rw[hnp] at hpa;rw[hnr] at hra;have IG:ni≤1048576:=by rw[←hni];exact hsm.lO
 have IF:np≤1048576:=by rw[←hnp];exact hsm.mO
 have IE:nr≤1048576:=by rw[←hnr];exact hsm.mN
 have PW:=ae hia;have OZ:=ae hpa;have MS:=ae hra;have wS:=ae hni;have Ec:=ae hnp;have zS:=ae hnr;have qg:=ae hkd;have GX:=ae htx;have pV:=ae hsm;have qO:=ae hfl;have kK:=ae hkW;have HB:=ae hb
 have HC:=ae (show ∀ X,af [] W X→X.cell? ⟨w.heap.size,0,none⟩=some (.int .i64 kd)∧X.cell? ⟨w.heap.size,1,none⟩=some (.string tx)∧X.cell? ⟨w.heap.size,2,none⟩=some (.slice ia ni nY)∧X.cell? ⟨w.heap.size,3,none⟩=some (.slice pa np pj)∧X.cell? ⟨w.heap.size,4,none⟩=some (.slice ra nr qU) from fun X hk=>by
  have h2:=hk.get hb (by simp)
  exact⟨by rw[ah h2];rfl,by rw[ah h2];rfl,by rw[ah h2];rfl,by rw[ah h2];rfl,by rw[ah h2];rfl⟩)
 clear hi hp hr hia hpa hra hni hnp hnr hkd htx hsm hfl hkW hb;go_enter Tryz.func11,Tryz.ntmps11
 go_upto_region 1 with(fail)
 rw[←hW];clear hW;go_wp2_with (refine kV rfl 36 _ rfl w.heap.size rfl _ _ (0,0) _ HB.out Tryz.underlying36 rfl Gs ?_)
 refine wT.out.mono ?_;rintro r w2 ⟨⟨e,rfl,he⟩,hk2⟩;have HE:=ae he;have kM:=ae hk2;obtain⟨c0,c1,_,_,_⟩:=HC.out w2 hk2;clear he hk2
 by_cases h0:e=0
 case neg=>
  have hneb:(e != 0)=true:=by simp[h0]
  have rY:=ae (show ¬OkP p from fun h=>h0 (HE.out.2 h));go_wp2_with fail
  go_ret2
  exact .inl ⟨e,h0,rY.out,rfl,kK.out.trans kM.out⟩
 case pos=>
  have hok:=HE.out.1 h0;have pW:=ae hok;subst h0;have IH:=hok.kind.hk;rw[qg.out] at IH
  obtain⟨n1,n2,n3⟩:(p.bL.map (fun x=>x.1)).Nodup∧(p.bI.map (fun x=>x.1)).Nodup∧(p.kind=4→p.items.Nodup):=by have:=hok.once;unfold kL at this;rw[bQ,bQ] at this;refine⟨this.1.2.1,this.2.1,fun h4=>?_⟩;have h5:=this.1.1;rw[aQ h4] at h5;exact h5
  have Ed:=ae n1;have O6:=ae n2;have TE:=ae n3;have Mn:=ae (kK.out.trans kM.out);clear hok n1 n2 n3
  rcases(by omega:kd=1∨kd=2∨kd=3∨kd=4∨kd=5) with rfl|rfl|rfl|rfl|rfl
  ·have se:=ae (KD tx w2);unfold dp at se;go_wp2_with fail
   refine se.out.mono ?_;rintro r w3 ⟨rfl,hw3⟩;have HW3:=ae hw3;clear hw3;go_wp2_with fail
   go_ret2
   exact .inr ⟨pW.out,w2.heap.size,rfl,.inl ⟨qg.out,by rw[GX.out,←HW3.out];exact aG _ _⟩,Mn.out.trans (by rw[←HW3.out];exact(af.refl _ _).alloc _)⟩
  ·have kH:=ae (Rl w2);have se:=ae (fun b X=>KE b X);have D0:=ae (fun v es s X h hn hs=>Nw w2.heap.size w2.heap.size v es s X h hn hs);unfold dp at kH se D0;clear c1;go_wp2_with fail
   refine kH.out.mono ?_;rintro r w3 ⟨rfl,d3,k3⟩;have H0:Hid (DqD w2.heap.size w3 w2.heap.size (.slice none 0 0) []∧fQ []=p.items.take 0∧Below w2.heap.size w2 w3):=ae ⟨d3,rfl,k3.below⟩;clear d3 k3 c0;go_wp2_with fail
   go_loopw [8] (fun i X=>∃ (k:Nat) (v:Value) (es:List EF),i=.int .i64 (k:Int)∧k≤ni∧Hid (DqD w2.heap.size X w2.heap.size v es∧fQ es=p.items.take k∧Below w2.heap.size w2 X)) (fun i _=>ni-(intOf i).toNat)
   case atStart=>exact⟨0,_,_,rfl,bz _,H0⟩
   case round=>
    obtain⟨k,v,es,rfl,hk,HV⟩:=hrel;have c2:=(HC.out wr (kM.out.trans (af.fm HV.out.2.2))).2.2.1
    by_cases hlt:k<ni
    ·obtain⟨x,hx⟩:∃ x,p.items[k]?=some x:=⟨_,ag (by rw[wS.out];exact hlt)⟩;obtain⟨g,off,rfl,hcc⟩:=PW.out (by omega);have hcx:=ak (Mn.out.trans (af.fm HV.out.2.2)) (hcc k x hx);have hkn:(k:Int)<(ni:Int):=by omega
     have pq:IntKind.i64.wrap (k:Int)=(k:Int):=by rw[cH];omega
     have HP:=ae (D0.out v es x wr HV.out.1 (by rw[HV.out.2.1,aR];omega) (pV.out.item (aB hx)));have HX:=ae hx;clear hx hcc;go_wp2_with fail
     refine HP.out.mono ?_;rintro r w5 ⟨rfl,v',es',h1,h2,h3⟩;have sb:Hid (DqD w2.heap.size w5 w2.heap.size v' es'∧fQ es'=p.items.take (k+1)∧Below w2.heap.size w2 w5):=ae ⟨h1,by rw[h2,HV.out.2.1,jZ HX.out],HV.out.2.2.trans (h3.ep HV.out.1.low (by simp))⟩;clear h1 h2 h3 hcx c2;go_wp2_with fail
     go_roundw
     case rel=>exact⟨k+1,v',es',by go_num,by omega,sb⟩
     case measure=>simp[intOf];omega
    ·obtain rfl:k=ni:=by omega
     go_wp2_with fail
     refine(se.out _ _).mono ?_;rintro r w6 ⟨rfl,tU⟩;have xE:=ae tU;clear tU;go_wp2_with fail
     go_ret2
     have mj:af [] wr w6:=by rw[←xE.out];exact(af.refl _ _).alloc _
     refine .inr ⟨pW.out,wr.heap.size,rfl,.inr (.inl ⟨qg.out,_,_,_,_,by rw[←xE.out];exact aG _ _,HV.out.1.aN mj,?_⟩),(Mn.out.trans (af.fm HV.out.2.2)).trans mj⟩;rw[HV.out.2.1];exact aE (by rw[wS.out];exact aq _)
  ·have kH:=ae (Rk w2);have se:=ae (fun b X=>ES b X);have l9:=ae (fun rb av ps kl s z X h hs h1 h2 hn=>Qk w2.heap.size rb w2.heap.size av ps kl s z X h hs h1 h2 hn);unfold dp at kH se l9;clear c1;go_wp2_with fail
   refine kH.out.mono ?_;rintro r w3 ⟨rb,rfl,d3,k3⟩;have H0:Hid (Cd w2.heap.size w3 rb w2.heap.size (.slice none 0 0) [] []∧([]:List (ByteArray×ByteArray)).Perm (p.bL.take 0)∧Below w2.heap.size w2 w3):=ae ⟨d3,by simp,k3.below⟩;clear d3 k3 c0;go_wp2_with fail
   go_loopw [10] (fun i X=>∃ (k:Nat) (av:Value) (ps:List (ByteArray×ByteArray)) (kl:List ByteArray),i=.int .i64 (k:Int)∧k≤np∧Hid (Cd w2.heap.size X rb w2.heap.size av ps kl∧ps.Perm (p.bL.take k)∧Below w2.heap.size w2 X)) (fun i _=>np-(intOf i).toNat)
   case atStart=>exact⟨0,_,_,_,rfl,bz _,H0⟩
   case round=>
    obtain⟨k,av,ps,kl,rfl,hk,HV⟩:=hrel;have c3:=(HC.out wr (kM.out.trans (af.fm HV.out.2.2))).2.2.2.1
    by_cases hlt:k<np
    ·obtain⟨x,hx⟩:∃ x,p.bL[k]?=some x:=⟨_,ag (by rw[Ec.out];exact hlt)⟩;obtain⟨g,off,rfl,hcc⟩:=OZ.out (by omega);have hcx:=ak (Mn.out.trans (af.fm HV.out.2.2)) (hcc k x hx).1;have hcy:=ak (Mn.out.trans (af.fm HV.out.2.2)) (hcc k x hx).2;have hkn:(k:Int)<(np:Int):=by omega
     have pq:IntKind.i64.wrap (k:Int)=(k:Int):=by rw[cH];omega
     have HP:=ae (l9.out rb av ps kl x.1 x.2 wr.drew (HV.out.1.aN (af.refl _ _).drew) (CS HV.out.2.1 Ed.out hx) (pV.out.field (aB hx)) (pV.out.val (aB hx)) (by have:=CT HV.out.2.1;omega));have HX:=ae hx;clear hx hcc;go_wp2_with fail
     go_still_tail 13,(by kernel_rfl)
     change wpList _ _ _ _ _ wr.drew
     go_wp2_with fail
     refine HP.out.mono ?_;rintro r w5 ⟨⟨u,rfl⟩,wP,h1,h2⟩;have sb:Hid (Cd w2.heap.size w5 rb w2.heap.size wP (rp (fun x=>x.1) ps (x.1,x.2)) (kl++[x.1])∧(rp (fun x=>x.1) ps (x.1,x.2)).Perm (p.bL.take (k+1))∧Below w2.heap.size w2 w5):=ae ⟨h1,Ac (f:=fun x=>x.1) HV.out.2.1 HX.out,(HV.out.2.2.trans ((af.refl [] wr).drew.ep HV.out.1.low (by simp))).trans h2⟩;clear h1 h2 hcx hcy c3;go_wp2_with fail
     go_roundw
     case rel=>exact⟨k+1,wP,_,_,by go_num,by omega,sb⟩
     case measure=>simp[intOf];omega
    ·obtain rfl:k=np:=by omega
     go_wp2_with fail
     refine(se.out _ _).mono ?_;rintro r w6 ⟨rfl,tU⟩;have xE:=ae tU;clear tU;go_wp2_with fail
     go_ret2
     have mj:af [] wr w6:=by rw[←xE.out];exact(af.refl _ _).alloc _
     refine .inr ⟨pW.out,wr.heap.size,rfl,.inr (.inr (.inl ⟨qg.out,_,_,_,_,_,_,by rw[←xE.out];exact aG _ _,HV.out.1.aN mj,?_⟩)),(Mn.out.trans (af.fm HV.out.2.2)).trans mj⟩;have h9:=HV.out.2.1;rw[aE (by rw[Ec.out];exact aq _)] at h9;exact h9
  ·have kH:=ae (Rj w2);have se:=ae (fun b X=>Iq b X);have l9:=ae (fun rb av ps kl s X h hs h1 hn=>SK w2.heap.size rb w2.heap.size av ps kl s X h hs h1 hn);have O4:=ae (show(p.items.map id).Nodup by rw[nD];exact TE.out qg.out);unfold dp at kH se l9;clear c1;go_wp2_with fail
   refine kH.out.mono ?_;rintro r w3 ⟨rb,rfl,d3,k3⟩;have H0:Hid (Cl w2.heap.size w3 rb w2.heap.size (.slice none 0 0) [] []∧([]:List ByteArray).Perm (p.items.take 0)∧Below w2.heap.size w2 w3):=ae ⟨d3,by simp,k3.below⟩;clear d3 k3 c0;go_wp2_with fail
   go_loopw [12] (fun i X=>∃ (k:Nat) (av:Value) (ps:List ByteArray) (kl:List ByteArray),i=.int .i64 (k:Int)∧k≤ni∧Hid (Cl w2.heap.size X rb w2.heap.size av ps kl∧ps.Perm (p.items.take k)∧Below w2.heap.size w2 X)) (fun i _=>ni-(intOf i).toNat)
   case atStart=>exact⟨0,_,_,_,rfl,bz _,H0⟩
   case round=>
    obtain⟨k,av,ps,kl,rfl,hk,HV⟩:=hrel;have c2:=(HC.out wr (kM.out.trans (af.fm HV.out.2.2))).2.2.1
    by_cases hlt:k<ni
    ·obtain⟨x,hx⟩:∃ x,p.items[k]?=some x:=⟨_,ag (by rw[wS.out];exact hlt)⟩;obtain⟨g,off,rfl,hcc⟩:=PW.out (by omega);have hcx:=ak (Mn.out.trans (af.fm HV.out.2.2)) (hcc k x hx);have hkn:(k:Int)<(ni:Int):=by omega
     have pq:IntKind.i64.wrap (k:Int)=(k:Int):=by rw[cH];omega
     have HP:=ae (l9.out rb av ps kl x wr HV.out.1 (CS HV.out.2.1 O4.out hx) (pV.out.item (aB hx)) (by have:=CT HV.out.2.1;omega));have HX:=ae hx;clear hx hcc;go_wp2_with fail
     refine HP.out.mono ?_;rintro r w5 ⟨⟨u,rfl⟩,wP,h1,h2⟩;have sb:Hid (Cl w2.heap.size w5 rb w2.heap.size wP (rp id ps x) (kl++[x])∧(rp id ps x).Perm (p.items.take (k+1))∧Below w2.heap.size w2 w5):=ae ⟨h1,Ac HV.out.2.1 HX.out,HV.out.2.2.trans h2⟩;clear h1 h2 hcx c2;go_wp2_with fail
     go_roundw
     case rel=>exact⟨k+1,wP,_,_,by go_num,by omega,sb⟩
     case measure=>simp[intOf];omega
    ·obtain rfl:k=ni:=by omega
     go_wp2_with fail
     refine(se.out _ _).mono ?_;rintro r w6 ⟨rfl,tU⟩;have xE:=ae tU;clear tU;go_wp2_with fail
     go_ret2
     have mj:af [] wr w6:=by rw[←xE.out];exact(af.refl _ _).alloc _
     refine .inr ⟨pW.out,wr.heap.size,rfl,.inr (.inr (.inr (.inl ⟨qg.out,_,_,_,_,_,_,by rw[←xE.out];exact aG _ _,HV.out.1.aN mj,?_⟩))),(Mn.out.trans (af.fm HV.out.2.2)).trans mj⟩;have h9:=HV.out.2.1;rw[aE (by rw[wS.out];exact aq _)] at h9;exact h9
  ·have kH:=ae (Ri w2);have se:=ae (fun b X=>Ip b X);have l9:=ae (fun av ps s x X h hn hs h1 hx=>Qj w2.heap.size w2.heap.size av ps s x X h hn hs h1 hx);unfold dp at kH se l9;clear c1;go_wp2_with fail
   refine kH.out.mono ?_;rintro r w3 ⟨rfl,d3,k3⟩;have H0:Hid (RkD w2.heap.size w3 w2.heap.size (.slice none 0 0) (p.bI.take 0)∧Below w2.heap.size w2 w3):=ae ⟨d3,k3.below⟩;clear d3 k3 c0;go_wp2_with fail
   go_loopw [14] (fun i X=>∃ (k:Nat) (av:Value),i=.int .i64 (k:Int)∧k≤nr∧Hid (RkD w2.heap.size X w2.heap.size av (p.bI.take k)∧Below w2.heap.size w2 X)) (fun i _=>nr-(intOf i).toNat)
   case atStart=>exact⟨0,_,rfl,bz _,H0⟩
   case round=>
    obtain⟨k,av,rfl,hk,HV⟩:=hrel;have c4:=(HC.out wr (kM.out.trans (af.fm HV.out.2))).2.2.2.2
    by_cases hlt:k<nr
    ·obtain⟨x,hx⟩:∃ x,p.bI[k]?=some x:=⟨_,ag (by rw[zS.out];exact hlt)⟩;obtain⟨g,off,rfl,hcc⟩:=MS.out (by omega);have hcx:=ak (Mn.out.trans (af.fm HV.out.2)) (hcc k x hx).1;have hcy:=ak (Mn.out.trans (af.fm HV.out.2)) (hcc k x hx).2;have hkn:(k:Int)<(nr:Int):=by omega
     have pq:IntKind.i64.wrap (k:Int)=(k:Int):=by rw[cH];omega
     have hxm:=aB hx;have HP:=ae (l9.out av (p.bI.take k) x.1 x.2 wr.drew (HV.out.1.aN (af.refl _ _).drew) (by rw[aR];omega) (yF O6.out hx) (pV.out.mem hxm) ⟨qO.out x hxm,pW.out.num x hxm⟩);have HX:=ae (show p.bI.take (k+1)=p.bI.take k++[(x.1,x.2)] from jZ hx);clear hx hcc hxm;go_wp2_with fail
     go_still_tail 13,(by kernel_rfl)
     change wpList _ _ _ _ _ wr.drew
     go_wp2_with fail
     refine HP.out.mono ?_;rintro r w5 ⟨⟨u,rfl⟩,wP,h1,h2⟩;have sb:Hid (RkD w2.heap.size w5 w2.heap.size wP (p.bI.take (k+1))∧Below w2.heap.size w2 w5):=ae ⟨by rw[HX.out];exact h1,(HV.out.2.trans ((af.refl [] wr).drew.ep HV.out.1.low (by simp))).trans h2⟩;clear h1 h2 hcx hcy c4;go_wp2_with fail
     go_roundw
     case rel=>exact⟨k+1,wP,by go_num,by omega,sb⟩
     case measure=>simp[intOf];omega
    ·obtain rfl:k=nr:=by omega
     go_wp2_with fail
     refine(se.out _ _).mono ?_;rintro r w6 ⟨rfl,tU⟩;have xE:=ae tU;clear tU;go_wp2_with fail
     go_ret2
     have mj:af [] wr w6:=by rw[←xE.out];exact(af.refl _ _).alloc _
     have h9:=HV.out.1;rw[aE (by rw[zS.out];exact aq _)] at h9;exact .inr ⟨pW.out,wr.heap.size,rfl,.inr (.inr (.inr (.inr ⟨qg.out,_,_,_,by rw[←xE.out];exact aG _ _,h9.aN mj⟩))),(Mn.out.trans (af.fm HV.out.2)).trans mj⟩
end jw
namespace jw
open ks (af ae hlt ah bC alloc_old aG aX aT dp DM)
theorem AI.aN {w w':World} {vb:Nat} {p:cG} (h:AI w vb p) (hk:af [] w w'):AI w' vb p:=by
 rcases h with⟨h1,h2⟩|⟨h1,B,db,sv,cs,cost,h2,h3,h4⟩|⟨h1,B,rb,db,D,cost,h2,h3⟩|⟨h1,B,rb,db,D,cost,h2,h3⟩|⟨h1,B,rb,db,D,cost,sv,row,h2,h3⟩
 ·exact .inl ⟨h1,hk.get h2 (by simp)⟩
 ·exact .inr (.inl ⟨h1,B,db,sv,cs,cost,hk.get h2 (by simp),h3.aN hk,h4⟩)
 ·exact .inr (.inr (.inl ⟨h1,B,rb,db,D,cost,hk.get h2 (by simp),h3.aN hk⟩))
 ·exact .inr (.inr (.inr (.inl ⟨h1,B,rb,db,D,cost,hk.get h2 (by simp),h3.aN hk⟩)))
 ·exact .inr (.inr (.inr (.inr ⟨h1,B,rb,db,D,cost,sv,row,hk.get h2 (by simp),h3.aN hk⟩)))
theorem LK {w:World} {vb:Nat} {p:cG} (h:AI w vb p) (hk:ti p):
  Calls Tryz.prog 18 #[dp vb] w fun r w'=>(∃ b:Bool,r=.returned (.bool b)∧(b=true↔lp p))∧af [] w w':=by
 have key:∀ b:Bool,(b=true↔lp p)→Calls Tryz.prog 18 #[dp vb] w (fun r w'=>r=.returned (.bool b)∧af [] w w')→Calls Tryz.prog 18 #[dp vb] w fun r w'=>(∃ b:Bool,r=.returned (.bool b)∧(b=true↔lp p))∧af [] w w':=fun b hb hc=>hc.mono fun r w' ⟨h1,h2⟩=>⟨⟨b,h1,hb⟩,h2⟩
 have hi:=hk.hi;have hp:=hk.hp;have hr:=hk.hr
 rcases h with⟨h1,h2⟩|⟨h1,B,db,sv,cs,cost,h2,h3,h4⟩|⟨h1,B,rb,db,D,cost,h2,h3⟩|⟨h1,B,rb,db,D,cost,h2,h3⟩|⟨h1,B,rb,db,D,cost,sv,row,h2,h3⟩
 ·exact key false (by unfold lp;simp[h1]) (Fm vb _ _ w h2 (Ek _ w))
 ·refine key (decide ((cO cs).length=0)) ?_ (Fo vb _ _ w h2 (E4 db _ w (by rw[ah h3.hd];rfl)));rw[h1] at hp hr;rw[h4];unfold lp;have e1:p.bL=[]:=by simpa using hp
  have e2:p.bI=[]:=by simpa using hr
  simp[h1,e1,e2]
 ·refine key (decide (p.bL.length=0)) ?_ (BO vb _ _ w h2 (BN B rb db D cost _ w h3));rw[h1] at hi hr;unfold lp;have e1:p.items=[]:=by simpa using hi
  have e2:p.bI=[]:=by simpa using hr
  simp[h1,e1,e2]
 ·refine key (decide (p.items.length=0)) ?_ (DI vb _ _ w h2 (DR B rb db D cost _ w h3));rw[h1] at hp hr;unfold lp;have e1:p.bL=[]:=by simpa using hp
  have e2:p.bI=[]:=by simpa using hr
  simp[h1,e1,e2]
 ·refine key (decide (p.bI.length=0)) ?_ (DH vb _ _ w h2 (C2 h3));rw[h1] at hi hp;unfold lp;have e1:p.items=[]:=by simpa using hi
  have e2:p.bL=[]:=by simpa using hp
  simp[h1,e1,e2]
def Mk (p:cG) (w:World) (r:Ending) (w':World):Prop:=∃ q iv pv rv,r=.returned (.agg #[.int .i64 q.kind,.string q.text,iv,pv,rv])∧jB w.heap.size w' iv pv rv q.items q.bL q.bI∧jV p q∧af [] w w'
theorem C5 {p:cG} (h:OkP p):(p.bL.map (fun x=>x.1)).Nodup∧(p.bI.map (fun x=>x.1)).Nodup∧(p.kind=4→p.items.Nodup):=by have:=h.once;unfold kL at this;rw[bQ,bQ] at this;refine⟨this.1.2.1,this.2.1,fun h4=>?_⟩;have h5:=this.1.1;rw[aQ h4] at h5;exact h5
theorem J9 {w:World} {vb:Nat} {p:cG} (h:AI w vb p) (ho:OkP p):
  Calls Tryz.prog 20 #[dp vb] w fun r w'=>Mk p w r w':=by
 have hk:=ho.kind;have hi:=hk.hi;have hp:=hk.hp;have hr:=hk.hr;have ht:=hk.ht;obtain⟨n1,n2,n3⟩:=C5 ho;have iU:([]:List (ByteArray×ByteArray)).Pairwise (fun a b=>tlt a.1 b.1):=List.Pairwise.nil;have NL:rk.j9 ([]:List (ByteArray×Nat)):=List.Pairwise.nil
 have Nh:p.text.size=0→p.text=ByteArray.empty:=fun h=>by
  cases hh:p.text with
  | mk d=>rw[hh] at h;have:d=#[]:=mK h;rw[this];rfl
 rcases h with⟨h1,h2⟩|⟨h1,B,db,sv,cs,cost,h2,h3,h4⟩|⟨h1,B,rb,db,D,cost,h2,h3⟩|⟨h1,B,rb,db,D,cost,h2,h3⟩|⟨h1,B,rb,db,D,cost,sv,row,h2,h3⟩
 ·rw[h1] at hi hp hr;have e1:p.items=[]:=by simpa using hi
  have e2:p.bL=[]:=by simpa using hp
  have e3:p.bI=[]:=by simpa using hr
  refine(EK vb _ w (fun t its vj vZ=>t=p.text∧its=[]∧vj=[]∧vZ=[]) h2 (fun W _=>Hf _ W) (fun W ob hkW zI hO=>?_)).mono ?_
  ·refine(Ej 1 ob p.text _ _ _ _ W hO).mono ?_;rintro r w' ⟨rfl,h5,h6⟩;exact⟨rfl,_,_,_,_,[],[],[],h5,⟨bF.nil _ _ _ _ _,bF.nil _ _ _ _ _,bF.nil _ _ _ _ _⟩,⟨rfl,rfl,rfl,rfl⟩,h6⟩
  ·rintro r w' ⟨t,iv,pv,rv,its,vj,vZ,rfl,h5,⟨rfl,rfl,rfl,rfl⟩,h6⟩;refine⟨⟨1,p.text,[],[],[]⟩,iv,pv,rv,rfl,h5,⟨h1.symm,rfl,?_,⟨iU,by rw[e2];simp⟩,⟨NL,by rw[e3];simp⟩⟩,h6⟩;rw[h1,aJ (by decide),e1]
 ·rw[h1] at hp hr ht;have e1:p.text=ByteArray.empty:=Nh (by simpa using ht);have e2:p.bL=[]:=by simpa using hp
  have e3:p.bI=[]:=by simpa using hr
  refine(EL vb _ w (fun t its vj vZ=>t=ByteArray.empty∧its=p.items∧vj=[]∧vZ=[]) h2 (fun W _=>Iz _ W) (fun W ob hkW zI hO=>?_)).mono ?_
  ·refine(E3 B ob db sv cs cost 2 _ _ _ W (h3.aN hkW) (by rw[h4];exact ho.few.1) hO).mono ?_;rintro r w' ⟨rfl,v',h5,h6,h7⟩;rw[h4] at h6;exact⟨rfl,_,_,_,_,p.items,[],[],h5,⟨h6,bF.nil _ _ _ _ _,bF.nil _ _ _ _ _⟩,⟨rfl,rfl,rfl,rfl⟩,h7⟩
  ·rintro r w' ⟨t,iv,pv,rv,its,vj,vZ,rfl,h5,⟨rfl,rfl,rfl,rfl⟩,h6⟩;refine⟨⟨2,ByteArray.empty,p.items,[],[]⟩,iv,pv,rv,rfl,h5,⟨h1.symm,e1.symm,?_,⟨iU,by rw[e2];simp⟩,⟨NL,by rw[e3];simp⟩⟩,h6⟩;rw[h1,aJ (by decide)]
 ·rw[h1] at hi hr ht;have e1:p.text=ByteArray.empty:=Nh (by simpa using ht);have e2:p.items=[]:=by simpa using hi
  have e3:p.bI=[]:=by simpa using hr
  refine(Be vb _ w (fun t its vj vZ=>t=ByteArray.empty∧its=[]∧(vj.Pairwise (fun a b=>tlt a.1 b.1)∧∀ x,x∈vj↔x∈p.bL)∧vZ=[]) h2 (fun W _=>DF _ W) (fun W ob hkW zI hO=>?_)).mono ?_
  ·refine(BM B rb db ob 3 D cost p.bL _ _ _ W (h3.aN hkW) ho.few.2.1 n1 hO).mono ?_;rintro r w' ⟨rfl,v,ys,h5,h6,h7,h8,h9⟩;exact⟨rfl,_,_,_,_,[],ys,[],h5,⟨bF.nil _ _ _ _ _,h6,bF.nil _ _ _ _ _⟩,⟨rfl,rfl,⟨h7,h8⟩,rfl⟩,h9⟩
  ·rintro r w' ⟨t,iv,pv,rv,its,vj,vZ,rfl,h5,⟨rfl,rfl,h7,rfl⟩,h6⟩;refine⟨⟨3,ByteArray.empty,[],vj,[]⟩,iv,pv,rv,rfl,h5,⟨h1.symm,e1.symm,?_,h7,⟨NL,by rw[e3];simp⟩⟩,h6⟩;rw[h1,aJ (by decide),e2]
 ·rw[h1] at hp hr ht;have e1:p.text=ByteArray.empty:=Nh (by simpa using ht);have e2:p.bL=[]:=by simpa using hp
  have e3:p.bI=[]:=by simpa using hr
  refine(CR vb _ w (fun t its vj vZ=>t=ByteArray.empty∧(its.Pairwise tlt∧∀ x,x∈its↔x∈p.items)∧vj=[]∧vZ=[]) h2 (fun W _=>Fq _ W) (fun W ob hkW zI hO=>?_)).mono ?_
  ·refine(DQ B rb db ob 4 D cost p.items _ _ _ W (h3.aN hkW) ho.few.1 (n3 h1) hO).mono ?_;rintro r w' ⟨rfl,v,ys,h5,h6,h7,h8,h9⟩;exact⟨rfl,_,_,_,_,ys,[],[],h5,⟨h6,bF.nil _ _ _ _ _,bF.nil _ _ _ _ _⟩,⟨rfl,⟨h7,h8⟩,rfl,rfl⟩,h9⟩
  ·rintro r w' ⟨t,iv,pv,rv,its,vj,vZ,rfl,h5,⟨rfl,h7,rfl,rfl⟩,h6⟩;refine⟨⟨4,ByteArray.empty,its,[],[]⟩,iv,pv,rv,rfl,h5,⟨h1.symm,e1.symm,?_,⟨iU,by rw[e2];simp⟩,⟨NL,by rw[e3];simp⟩⟩,h6⟩;rw[h1,aQ rfl];exact h7
 ·rw[h1] at hi hp ht;have e1:p.text=ByteArray.empty:=Nh (by simpa using ht);have e2:p.items=[]:=by simpa using hi
  have e3:p.bL=[]:=by simpa using hp
  refine(CQ vb _ w (fun t its vj vZ=>t=ByteArray.empty∧its=[]∧vj=[]∧vZ=row) h2 (fun W _=>EP _ W) (fun W ob hkW zI hO=>?_)).mono ?_
  ·refine(C1 ob 5 _ _ _ (h3.aN hkW) ho.few.2.2 hO).mono ?_;rintro r w' ⟨rfl,v,h5,h6,h7⟩;exact⟨rfl,_,_,_,_,[],[],row,h5,⟨bF.nil _ _ _ _ _,bF.nil _ _ _ _ _,h6⟩,⟨rfl,rfl,rfl,rfl⟩,h7⟩
  ·rintro r w' ⟨t,iv,pv,rv,its,vj,vZ,rfl,h5,⟨rfl,rfl,rfl,rfl⟩,h6⟩;refine⟨⟨5,ByteArray.empty,[],[],vZ⟩,iv,pv,rv,rfl,h5,⟨h1.symm,e1.symm,?_,⟨iU,by rw[e3];simp⟩,⟨h3.CH,fun x=>h3.perm.mem_iff⟩⟩,h6⟩;rw[h1,aJ (by decide),e2]
open ks (af ae hlt ah bC alloc_old aG aX aT dp)
def pvO (k:Int) (t:ByteArray) (iv pv rv:Value):Obj:=.cells #[.int .i64 k,.string t,iv,pv,rv] 36 (0,0)
theorem jB.Jy {B b:Nat} {c:Array Value} {w w':World} {iv pv rv:Value} {its:List ByteArray} {vj:List (ByteArray×ByteArray)} {vZ:List (ByteArray×Nat)} (h:jB B w iv pv rv its vj vZ) (hb:w.heap[b]?=some (.cells c 36 (0,0))) (hk:af [b] w w'):jB B w' iv pv rv its vj vZ:=⟨h.items.keeps hk (fun c hc hm=>by simp at hm;subst hm;exact h.items.bw hb (by decide) hc),h.bL.keeps hk (fun c hc hm=>by simp at hm;subst hm;exact h.bL.bw hb (by decide) hc),h.bI.keeps hk (fun c hc hm=>by simp at hm;subst hm;exact h.bI.bw hb (by decide) hc)⟩
structure PlD (p:cG) (w X:World) (iv pv rv:Value) (q:cG):Prop where
  hb:X.heap[w.heap.size+1]?=some (pvO q.kind q.text iv pv rv)
  ha:X.heap[w.heap.size]?=some (pvO 0 ByteArray.empty (.slice none 0 0) (.slice none 0 0) (.slice none 0 0))
  at_:jB w.heap.size X iv pv rv q.items q.bL q.bI
  n:jV p q
  k:af [] w X
theorem PlD.of {p:cG} {w W5:World} {iv pv rv:Value} {q:cG} {k0:Int} {t0:ByteArray} {i0 p0 r0 u:Value} {j:Nat} (hb:W5.heap[w.heap.size+1]?=some (pvO k0 t0 i0 p0 r0)) (ha:W5.heap[w.heap.size]?=some (pvO 0 ByteArray.empty (.slice none 0 0) (.slice none 0 0) (.slice none 0 0)))
    (hat:jB w.heap.size W5 iv pv rv q.items q.bL q.bI) (hn:jV p q) (hk:af [] w W5) (he:(#[.int .i64 k0,.string t0,i0,p0,r0]:Array Value).setIfInBounds j u=#[.int .i64 q.kind,.string q.text,iv,pv,rv]):PlD p w (W5.setCell ⟨w.heap.size+1,j,none⟩ u) iv pv rv q:=by
  have mj:af [w.heap.size+1] W5 (W5.setCell ⟨w.heap.size+1,j,none⟩ u):=(af.refl _ _).setCell (p:=⟨w.heap.size+1,j,none⟩) (.inl (by simp)) _;refine⟨?_,mj.get ha (by simp),hat.Jy hb mj,hn,hk.step mj (fun b hb=>.inr (by simp at hb;omega))⟩;unfold pvO at hb ⊢;rw[aX hb j u,he]
theorem Dj {p:cG} (h:ti p):(p.kind≠1→p.text=ByteArray.empty)∧(p.kind≠2→p.kind≠4→p.items=[])∧(p.kind≠3→p.bL=[])∧(p.kind≠5→p.bI=[]):=⟨fun h1=>zZ (h.ht.resolve_left h1),fun h1 h2=>by rcases h.hi with h3|h3|h3;exact absurd h3 h1;exact absurd h3 h2;exact h3,fun h1=>h.hp.resolve_left h1,fun h1=>h.hr.resolve_left h1⟩
theorem Gj {p:cG} (h:ti p) (h3:p.kind≠3) (h4:p.kind≠4) (h5:p.kind≠5):jV p p:=by
  obtain⟨e1,e2,e3,e4⟩:=Dj h;refine⟨rfl,rfl,by rw[aJ h4],⟨?_,fun _=>rO⟩,?_,fun _=>rO⟩
  · rw[e3 h3];exact List.Pairwise.nil
  · rw[e4 h5];exact List.Pairwise.nil
set_option maxRecDepth 100000 in
theorem Ka {w:World} {vb:Nat} {p:cG} (h:Cn w vb p) (ho:OkP p) (hfl:∀ x∈p.bI,x.2<18446744073709551616):
    Calls Tryz.prog 13 #[dp vb] w fun r w'=>Mk p w r w':=by
  obtain⟨kd,hkd⟩:∃ kd,p.kind=kd:=⟨_,rfl⟩;have RT:=h.kind;rw[hkd] at RT;obtain⟨W1,hW1⟩:∃ W1,W1=w.alloc TN:=⟨_,rfl⟩;have hk1:af [] w W1:=by rw[hW1];exact(af.refl _ w).alloc _
  have hz1:W1.heap.size=w.heap.size+1:=by rw[hW1];simp
  have Us:w.heap.size+1=W1.heap.size:=hz1.symm;obtain⟨W2,hW2⟩:∃ W2,W2=W1.alloc (pvO kd ⟨#[]⟩ (.slice none 0 0) (.slice none 0 0) (.slice none 0 0)):=⟨_,rfl⟩;have hk2:af [] w W2:=by rw[hW2];exact hk1.alloc _
  have ha:W2.heap[w.heap.size]?=some (pvO 0 ByteArray.empty (.slice none 0 0) (.slice none 0 0) (.slice none 0 0)):=by rw[hW2];exact alloc_old _ (by rw[hW1];exact aG _ _)
  have hb:W2.heap[w.heap.size+1]?=some (pvO kd ByteArray.empty (.slice none 0 0) (.slice none 0 0) (.slice none 0 0)):=by rw[hW2,Us];exact aG _ _
  have PU:=ae (Bt vb kd W1 (ak hk1 RT));have HD:=ae (h.aN hk2);have pW:=ae ho;have qg:=ae hkd;have kM:=ae hk2;have HA:=ae ha;have HB:=ae hb;have qO:=ae hfl;clear h ho hkd RT hk1 Us hk2 ha hb hfl;unfold dp at PU ⊢;unfold TN at hW1;unfold pvO at hW2;go_enter Tryz.func13,Tryz.ntmps13
  go_upto_region 1 with(fail)
  rw[←hW1];clear hW1
  go_upto_block 0 with(go_at_call 39;refine PU.out.mono ?_;rintro r w3 ⟨rfl,rfl⟩)
  rw[←hW2];clear hW2
  go_cut [] (fun wx=>∃ (iv pv rv:Value) (q:cG),Hid (PlD p w wx iv pv rv q))
  case first=>as_aux_lemma=>
    have hb5:=HB.out;unfold pvO at hb5;have e8:W2.cell? ⟨w.heap.size+1,0,none⟩=some (.int .i64 kd):=by rw[ah hb5];rfl
    obtain⟨e1,e2,e3,e4⟩:=Dj pW.out.kind;obtain⟨m1,m2,m3⟩:=C5 pW.out
    rcases HD.out with⟨h1,h2⟩|⟨h1,B,db,v,es,h2,h3,h4⟩|⟨h1,B,rb,db,av,ps,kl,h2,h3,h4⟩|⟨h1,B,rb,db,av,ps,kl,h2,h3,h4⟩|⟨h1,B,rb,av,h2,h3⟩
    · have hk1:=h1
      rw[qg.out] at h1;subst h1;have c1:W2.cell? ⟨vb,1,none⟩=some (.string p.text):=by rw[ah h2];rfl
      have c2:∃ u,W2.cell? ⟨w.heap.size+1,1,none⟩=some u:=⟨_,by rw[ah hb5];rfl⟩;obtain⟨u,c2⟩:=c2;have f2:W2.frozen? ⟨w.heap.size+1,1,none⟩=false:=bC hb5 1;have HN:=ae (Gj pW.out.kind (by rw[hk1];decide) (by rw[hk1];decide) (by rw[hk1];decide));have hq:p.items=[]∧p.bL=[]∧p.bI=[]:=⟨e2 (by rw[hk1];decide) (by rw[hk1];decide),e3 (by rw[hk1];decide),e4 (by rw[hk1];decide)⟩;have HQ:=ae hq;clear hb5 h2 e1 e2 e3 e4 m1 m2 m3 hq hk1;go_wp2_with fail
      go_meet;refine⟨.slice none 0 0,.slice none 0 0,.slice none 0 0,p,ae (PlD.of HB.out HA.out ?_ HN.out kM.out (by rw[qg.out];rfl))⟩;rw[HQ.out.1,HQ.out.2.1,HQ.out.2.2];exact⟨bF.nil _ _ _ _ _,bF.nil _ _ _ _ _,bF.nil _ _ _ _ _⟩
    · have hk1:=h1
      rw[qg.out] at h1;subst h1;obtain⟨W3,hW3⟩:∃ W3,W3=W2.alloc (.cells #[] 9):=⟨_,rfl⟩;have hk3:af [] W2 W3:=by rw[hW3];exact(af.refl _ W2).alloc _
      have ho3:bF b9 1 9 w.heap.size W3 (.slice (some ⟨W2.heap.size,0,none⟩) 0 0) []:=by rw[hW3];exact yC b9 1 9 W2 w.heap.size kM.out.size
      have c2:W3.cell? ⟨vb,2,none⟩=some (dp db):=by rw[ah (hk3.get h2 (by simp))];rfl
      have fN:=ae (JQ B db v es W3 (h3.aN hk3) (by rw[h4];exact pW.out.few.1));rw[h4] at fN;have HN:=ae (Gj pW.out.kind (by rw[hk1];decide) (by rw[hk1];decide) (by rw[hk1];decide));have HQ:=ae (show p.text=ByteArray.empty∧p.bL=[]∧p.bI=[] from⟨e1 (by rw[hk1];decide),e3 (by rw[hk1];decide),e4 (by rw[hk1];decide)⟩);have ZQ:=ae pW.out.few.1;have TC:=ae ho3;have K3:=ae hk3;have HW3:=ae hW3;unfold dp at fN c2;clear hb5 h2 h3 h4 e1 e2 e3 e4 m1 m2 m3 hk1 hk3 ho3
      go_upto_region 6 with(fail)
      have hw3:W2.alloc (.cells #[] 9)=W3:=HW3.out.symm;clear hW3
      go_wp2_with (first
        | (go_at_call 41
           refine fN.out.mono ?_;rintro r w5 ⟨ar,cr,rfl,h5,k5⟩;have H5:=ae h5;have K5:=ae k5
           clear h5 k5)
        | (at_builtin
           refine mL rfl _ _ rfl w.heap.size (.slice (some ⟨W2.heap.size,0,none⟩) 0 0) [] p.items (.slice ar p.items.length cr) rfl (TC.out.aN K5.out) rfl (H5.out.row dR.n) (by simp) (aF ZQ.out (by decide)) (aF (aF kM.out.size K3.out.size) K5.out.size) ?_;intro v6 w6 hp;have hb6:=hp.bY.get ((K3.out.trans K5.out).get HB.out (by simp)) (by have:=hlt HB.out;simp[Value.ownBlock];omega);have ha6:=hp.bY.get ((K3.out.trans K5.out).get HA.out (by simp)) (by have:=hlt HA.out;simp[Value.ownBlock];omega);have k6:af [] w w6:=((kM.out.trans K3.out).trans K5.out).step hp.bY (fun b hb=>.inr (TC.out.lt b (by simpa using hb)).1);have I8:Hid (bF b9 1 9 w.heap.size w6 v6 p.items):=ae hp.own
           obtain⟨a6,n6,c6,rfl⟩:∃ a n c,v6=.slice a n c:=by obtain⟨_,_,e,_⟩:=hp.own.form;exact⟨_,_,_,e⟩
           have Pb:=ae hb6;have Ti:=ae ha6;have K6:=ae k6;obtain⟨u,YY⟩:∃ u,w6.cell? ⟨w.heap.size+1,2,none⟩=some u:=⟨_,by rw[ah hb6];rfl⟩;have f62:w6.frozen? ⟨w.heap.size+1,2,none⟩=false:=bC hb6 2
           clear hp hb6 ha6 k6))
      go_meet;refine⟨.slice a6 n6 c6,.slice none 0 0,.slice none 0 0,p,ae (PlD.of Pb.out Ti.out ?_ HN.out K6.out (by rw[qg.out,HQ.out.1];rfl))⟩;rw[HQ.out.2.1,HQ.out.2.2];exact⟨I8.out,bF.nil _ _ _ _ _,bF.nil _ _ _ _ _⟩
    · have hk1:=h1
      rw[qg.out] at h1;subst h1;have c3:W2.cell? ⟨vb,3,none⟩=some (dp rb):=by rw[ah h2];rfl
      have fN:=ae (Kg B rb db av ps kl W2 h3 (by rw[h4.length_eq];exact pW.out.few.2.1));have HQ:=ae (show p.text=ByteArray.empty∧p.items=[]∧p.bI=[] from⟨e1 (by rw[hk1];decide),e2 (by rw[hk1];decide) (by rw[hk1];decide),e4 (by rw[hk1];decide)⟩);have HN:Hid (jV p ⟨3,p.text,p.items,ps,p.bI⟩):=ae ⟨hk1.symm,rfl,by rw[aJ (by rw[hk1];decide)],⟨h3.up,fun x=>h4.mem_iff⟩,by rw[e4 (by rw[hk1];decide)];exact List.Pairwise.nil,fun _=>rO⟩;unfold dp at fN c3;clear hb5 h2 h3 h4 e1 e2 e3 e4 m1 m2 m3 hk1;go_wp2_with (go_at_call 42;refine fN.out.mono ?_;rintro r w6 ⟨v6,rfl,h5,k5⟩;have hb6:=k5.get HB.out (by simp);have Ti:=ae (k5.get HA.out (by simp));have K6:=ae (kM.out.trans k5);have I8:=ae (h5.mono kM.out.size);obtain⟨a6,n6,c6,rfl⟩:∃ a n c,v6=.slice a n c:=(by obtain⟨_,_,e,_⟩:=h5.form;exact⟨_,_,_,e⟩);have Pb:=ae hb6;obtain⟨u,YY⟩:∃ u,w6.cell? ⟨w.heap.size+1,3,none⟩=some u:=⟨_,(by rw[ah hb6];rfl)⟩;have f62:w6.frozen? ⟨w.heap.size+1,3,none⟩=false:=bC hb6 3;clear h5 k5 hb6)
      go_meet;refine⟨.slice none 0 0,.slice a6 n6 c6,.slice none 0 0,⟨3,p.text,p.items,ps,p.bI⟩,ae (PlD.of Pb.out Ti.out ?_ HN.out K6.out (by rw[HQ.out.1];rfl))⟩;rw[HQ.out.2.1,HQ.out.2.2];exact⟨bF.nil _ _ _ _ _,I8.out,bF.nil _ _ _ _ _⟩
    · have hk1:=h1
      rw[qg.out] at h1;subst h1;have c3:W2.cell? ⟨vb,4,none⟩=some (dp rb):=by rw[ah h2];rfl
      have fN:=ae (ET B rb db av ps kl W2 h3 (by rw[h4.length_eq];exact pW.out.few.1));have HQ:=ae (show p.text=ByteArray.empty∧p.bL=[]∧p.bI=[] from⟨e1 (by rw[hk1];decide),e3 (by rw[hk1];decide),e4 (by rw[hk1];decide)⟩);have HN:Hid (jV p ⟨4,p.text,ps,p.bL,p.bI⟩):=ae ⟨hk1.symm,rfl,by rw[aQ hk1];exact⟨h3.up,fun x=>h4.mem_iff⟩,⟨by rw[e3 (by rw[hk1];decide)];exact List.Pairwise.nil,fun _=>rO⟩,by rw[e4 (by rw[hk1];decide)];exact List.Pairwise.nil,fun _=>rO⟩;unfold dp at fN c3;clear hb5 h2 h3 h4 e1 e2 e3 e4 m1 m2 m3 hk1;go_wp2_with (go_at_call 43;refine fN.out.mono ?_;rintro r w6 ⟨v6,rfl,h5,k5⟩;have hb6:=k5.get HB.out (by simp);have Ti:=ae (k5.get HA.out (by simp));have K6:=ae (kM.out.trans k5);have I8:=ae (h5.mono kM.out.size);obtain⟨a6,n6,c6,rfl⟩:∃ a n c,v6=.slice a n c:=(by obtain⟨_,_,e,_⟩:=h5.form;exact⟨_,_,_,e⟩);have Pb:=ae hb6;obtain⟨u,YY⟩:∃ u,w6.cell? ⟨w.heap.size+1,2,none⟩=some u:=⟨_,(by rw[ah hb6];rfl)⟩;have f62:w6.frozen? ⟨w.heap.size+1,2,none⟩=false:=bC hb6 2;clear h5 k5 hb6)
      go_meet;refine⟨.slice a6 n6 c6,.slice none 0 0,.slice none 0 0,⟨4,p.text,ps,p.bL,p.bI⟩,ae (PlD.of Pb.out Ti.out ?_ HN.out K6.out (by rw[HQ.out.1];rfl))⟩;rw[HQ.out.2.1,HQ.out.2.2];exact⟨I8.out,bF.nil _ _ _ _ _,bF.nil _ _ _ _ _⟩
    · have hk1:=h1
      rw[qg.out] at h1;subst h1;have c5:W2.cell? ⟨vb,5,none⟩=some (dp rb):=by rw[ah h2];rfl
      have hfl:∀ y∈p.bI,rk.Fl y.2:=fun y hy=>⟨qO.out y hy,pW.out.num y hy⟩
      obtain⟨hS,hP⟩:=ud p.bI [] JV (by simpa using m2) hfl (fun x hx=>pW.out.long x.1 (by unfold zk;exact bA _ (aV.2 ⟨x,hx,rfl⟩)));obtain⟨S,Yy⟩:∃ S,vy [] p.bI=S:=⟨_,rfl⟩;rw[Yy,List.nil_append] at hP;rw[Yy] at hS;have HLEN:=ae (fun(X:World) (hk:af [] W2 X)=>(KK B rb av p.bI X (h3.aN hk)).mono (R':=fun r w'=>r=.returned (.int .i64 (p.bI.length:Int))∧w'=X) (fun r w' h=>⟨h.1,h.2.symm⟩));have fN:=ae (J3 B rb av p.bI S W2.drew (h3.aN (af.refl _ _).drew) pW.out.few.2.2 m2 hfl hS.r hP);have HQ:=ae (show p.text=ByteArray.empty∧p.items=[]∧p.bL=[] from⟨e1 (by rw[hk1];decide),e2 (by rw[hk1];decide) (by rw[hk1];decide),e3 (by rw[hk1];decide)⟩);have HN:Hid (jV p ⟨5,p.text,p.items,p.bL,S⟩):=ae ⟨hk1.symm,rfl,by rw[aJ (by rw[hk1];decide)],⟨by rw[e3 (by rw[hk1];decide)];exact List.Pairwise.nil,fun _=>rO⟩,hS.r,fun x=>hP.mem_iff⟩;unfold dp at fN HLEN c5;clear hb5 h2 h3 e1 e2 e3 e4 m1 m2 m3 hk1 hfl hS hP Yy;go_wp2_with fail
      go_still_tail 9,(by kernel_rfl)
      still_call (HLEN.out _ (af.refl _ _).drew)
      repeat still_step
      change wpList _ _ _ _ _ W2.drew
      go_wp2_with (go_at_call 44;refine fN.out.mono ?_;rintro r w6 ⟨v6,rfl,h5,k5⟩;have V2:=((af.refl [] W2).drew).trans k5;have hb6:=V2.get HB.out (by simp);have Ti:=ae (V2.get HA.out (by simp));have K6:=ae (kM.out.trans V2);have I8:=ae (h5.mono (kM.out.drew).size);obtain⟨a6,n6,c6,rfl⟩:∃ a n c,v6=.slice a n c:=(by obtain⟨_,_,e,_⟩:=h5.form;exact⟨_,_,_,e⟩);have Pb:=ae hb6;obtain⟨u,YY⟩:∃ u,w6.cell? ⟨w.heap.size+1,4,none⟩=some u:=⟨_,(by rw[ah hb6];rfl)⟩;have f62:w6.frozen? ⟨w.heap.size+1,4,none⟩=false:=bC hb6 4;clear h5 k5 V2 hb6)
      go_meet;refine⟨.slice none 0 0,.slice none 0 0,.slice a6 n6 c6,⟨5,p.text,p.items,p.bL,S⟩,ae (PlD.of Pb.out Ti.out ?_ HN.out K6.out (by rw[HQ.out.1];rfl))⟩;rw[HQ.out.2.1,HQ.out.2.2];exact⟨bF.nil _ _ _ _ _,bF.nil _ _ _ _ _,I8.out⟩
  case rest=>
    obtain⟨iv,pv,rv,q,HP⟩:=hcut;obtain⟨ai,ni,ci,rfl⟩:∃ ai ni ci,iv=.slice ai ni ci:=by obtain⟨_,_,e,_⟩:=HP.out.at_.items.form;exact⟨_,_,_,e⟩
    obtain⟨ap,np,cp,rfl⟩:∃ ai ni ci,pv=.slice ai ni ci:=by obtain⟨_,_,e,_⟩:=HP.out.at_.bL.form;exact⟨_,_,_,e⟩
    obtain⟨ar,nr,cr,rfl⟩:∃ ai ni ci,rv=.slice ai ni ci:=by obtain⟨_,_,e,_⟩:=HP.out.at_.bI.form;exact⟨_,_,_,e⟩
    have TJ:=ae HP.out.hb;have P0:=ae HP.out.ha;unfold pvO at TJ P0;go_wp2_with (first|(refine kV rfl 36 _ rfl (w.heap.size+1) rfl _ _ (0,0) _ TJ.out Tryz.underlying36 rfl uG ?_)|(refine wpList_store_row rfl 36 _ _ rfl w.heap.size #[.int .i64 q.kind,.string q.text,.slice ai ni ci,.slice ap np cp,.slice ar nr cr] rfl rfl _ _ P0.out uG rfl ?hone ?_))
    case hone=>exact HP.out.at_.one _ rfl
    have hA6:(wc.setRow w.heap.size #[.int .i64 q.kind,.string q.text,.slice ai ni ci,.slice ap np cp,.slice ar nr cr]).heap[w.heap.size]?=some (.cells #[.int .i64 q.kind,.string q.text,.slice ai ni ci,.slice ap np cp,.slice ar nr cr] 36 (0,0)):=mZ _ _ _ _ _ _ P0.out;have mj:af [w.heap.size] wc (wc.setRow w.heap.size #[.int .i64 q.kind,.string q.text,.slice ai ni ci,.slice ap np cp,.slice ar nr cr]):=⟨rfl,rfl,rfl,by simp,fun b hb hm=>jq _ _ _ _ (by simpa using hm)⟩;refine gH (results_cell_row rfl _ _ _ _ _ _ _ rfl hA6 Tryz.underlying36 rfl uG) rfl ?_;exact⟨q,_,_,_,rfl,HP.out.at_.Jy P0.out mj,HP.out.n,HP.out.k.step mj (fun b hb=>.inr (by simp at hb;omega))⟩
end jw
end Go.Proofs.YthpdlidbaojlbaaGreatDoor
