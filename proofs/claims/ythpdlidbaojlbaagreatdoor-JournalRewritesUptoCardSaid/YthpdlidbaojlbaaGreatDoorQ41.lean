/- The document's Rewrite (ref28), walked. -/
import Derived.Test.YthpdlidbaojlbaaGreatDoorQ40
set_option linter.unusedVariables false
set_option linter.unusedSimpArgs false
set_option maxHeartbeats 4000000
open Go.ChangeShapes Go.WideShapes Go.RowKit
namespace Go.Proofs.YthpdlidbaojlbaaGreatDoor
namespace jw
open ks (af ae hlt ah bC alloc_old aG aX aT dp)
attribute [local go_sem] gR
set_option maxRecDepth 100000 in
theorem Ew (pr:Nat→ByteArray) (tx:Int→ByteArray) (B0:Nat) (v:Value) (l:List StE) (w:World) (wK:Jd pr tx B0 w) (h:Mi w v l) (hb:jc (l.map (fun e=>e.d))≤1048576) (hfl:∀ e∈l,∀ x∈e.d.val.bI,x.2<18446744073709551616) (hdl:∀ e∈l,-9223372036854775808≤e.d.dl∧e.d.dl≤9223372036854775807):
  Calls Tryz.prog 5 #[v] w fun r w'=>RwR pr tx (l.map (fun e=>e.d)) w r w':=by
 obtain⟨va,fD,rfl,hcap,hcm,hva⟩:=h.form;have H:=ae h;have Ji:=ae hva;have qM:=ae wK;have MY:=ae hb;have qO:=ae hfl;have VS:=ae hdl;obtain⟨n,hn⟩:∃ n,l.length=n:=⟨_,rfl⟩;rw[hn] at H Ji ⊢
 have hnb:n≤1048576:=by have:=tR (l.map (fun e=>e.d));rw[aU,hn] at this;omega
 have HN:=ae hn
 have HI0:Hid (RdI pr tx w l 0 w (.slice none 0 0) []):=ae ⟨dI.nil _ _,af.refl _ _,by simp,fun o ho=>by
  have e:o.map (fun e=>([]:List EF).map (fun x=>x.ws)++e)=o:=by cases o<;>simp
  rw[e]
  simpa[jm] using ho⟩
 clear h hva wK hb hfl hdl hn hcap hcm;go_enter Tryz.func5,Tryz.ntmps5
 go_wp2_with fail
 go_loopw [19,4,5,6,7,8,9,10,12,14,16] (fun i o _ _ _ _ _ _ _ _ _ X=>∃ (k:Nat) (v:Value) (es:List EF),i=.int .i64 (k:Int)∧v=o∧k≤n∧Hid (RdI pr tx w l k X v es)) (fun i _ _ _ _ _ _ _ _ _ _ _=>n-(intOf i).toNat)
 case atStart=>exact⟨0,_,[],rfl,rfl,bz _,HI0⟩
 case round=>
  obtain⟨k,v,es,rfl,rfl,hk,HV⟩:=hrel;have pq:af [] w wr:=HV.out.kp;have kK:=ae pq
  by_cases hlt:k<n
  ·obtain⟨e,he⟩:∃ e,l[k]?=some e:=⟨_,ag (by rw[HN.out];exact hlt)⟩;obtain⟨g,off,rfl,hcc⟩:=Ji.out (by omega);have hcd:=hcc k e he;have hem:=aB he;obtain⟨r1,r2,r3⟩:=H.out.rows e hem;obtain⟨sm,JJ⟩:=FW MY.out hem;have hsx:∀ (j:Nat) (u:Value),(pL e)[j]?=some u→wr.cell? ⟨g,off+k*7+j,none⟩=some u:=fun j u hu=>ak pq (hcd j u hu)
   have hkn:(k:Int)<(n:Int):=by omega
   obtain⟨w3,hw3⟩:∃ w3,wr.alloc (.cells (pL e).toArray 38)=w3:=⟨_,rfl⟩;have hb3:w3.heap[wr.heap.size]?=some (.cells (pL e).toArray 38 (0,0)):=by rw[←hw3];exact aG wr _
   have hk3:af [] wr w3:=by rw[←hw3];exact(af.refl _ wr).alloc _
   have VB:=ae (Uc e.d.val e.iv e.pv e.rv w3 sm (qO.out e hem) ((r1.aN pq).aN hk3) ((r2.aN pq).aN hk3) ((r3.aN pq).aN hk3));have HE:=ae he;have pV:=ae sm;have xG:=ae JJ;have O9:=ae (VS.out e hem);have Ch:=ae (qO.out e hem);have zt:=ae hk3;have HB3:=ae hb3;obtain⟨⟨key,val,dl⟩,iv,pv,rv⟩:=e;simp only at r1 r2 r3 VB pV xG O9 Ch;obtain⟨ia,nY,rfl,_⟩:=r1;obtain⟨pa,pj,rfl,_⟩:=r2;obtain⟨ra,qU,rfl,_⟩:=r3;have x0:=hsx 0 _ rfl;have x1:=hsx 1 _ rfl;have x2:=hsx 2 _ rfl;have x3:=hsx 3 _ rfl;have x4:=hsx 4 _ rfl;have x5:=hsx 5 _ rfl;have x6:=hsx 6 _ rfl;unfold pL at hw3 hb3;simp only[Nat.add_zero] at x0 x1 x2 x3 x4 x5 x6 hw3 hb3;have y0:w3.cell? ⟨wr.heap.size,0,none⟩=some (.string key):=by rw[ah hb3];rfl
   have y1:w3.cell? ⟨wr.heap.size,1,none⟩=some (.int .i64 val.kind):=by rw[ah hb3];rfl
   have y2:w3.cell? ⟨wr.heap.size,2,none⟩=some (.string val.text):=by rw[ah hb3];rfl
   have y3:w3.cell? ⟨wr.heap.size,3,none⟩=some (.slice ia val.items.length nY):=by rw[ah hb3];rfl
   have y4:w3.cell? ⟨wr.heap.size,4,none⟩=some (.slice pa val.bL.length pj):=by rw[ah hb3];rfl
   have y5:w3.cell? ⟨wr.heap.size,5,none⟩=some (.slice ra val.bI.length qU):=by rw[ah hb3];rfl
   have y6:w3.cell? ⟨wr.heap.size,6,none⟩=some (.int .i64 dl):=by rw[ah hb3];rfl
   clear he hcc hcd hem sm JJ hsx hk3 hb3 pq;go_wp2_with fail
   refine VB.out.mono ?_;rintro r w5 (⟨e,hne,hno,rfl,hk5⟩|⟨hok,vb,rfl,Lc,hk5⟩)
   ·have HBAD:=ae (HV.out.bad HE.out (fun hr=>hno hr.ok));have AO:=ae ((kK.out.trans zt.out).trans hk5);have hneb:(e != 0)=true:=by simp[hne]
    clear hno hk5 y0 y1 y2 y3 y4 y5 y6;go_wp2_with fail
    go_quiet (fail)
    go_wp2_with fail
    go_ret2
    exact⟨AO.out.drewN _,.inl ⟨HBAD.out,rfl⟩⟩
   ·obtain⟨bad,hbad⟩:∃ b:Bool,b=true↔¬s7 (jm l k) ⟨key,val,dl⟩:=by classical exact⟨decide _,cz⟩
    have zx:=ae hbad;have pW:=ae hok;have Mw:=ae Lc;have AO:=ae hk5;have z0:=ak hk5 y0;have z6:=ak hk5 y6;have HZ:=ae (And.intro z0 z6);clear hbad hok Lc hk5 y0 y1 y2 y3 y4 y5 y6 x0 x1 x2 x3 x4 x5 x6;unfold dp
    go_upto_region 6 with(fail)
    go_cut [66] (fun t wx=>t=.bool bad∧Hid (af [] w5 wx))
    case first Jc Kc zK hKc=>as_aux_lemma=>
     obtain⟨bE,R8⟩:∃ b:Bool,b=true↔lp val:=by classical exact⟨decide _,cz⟩
     have PZ:=ae R8;have Ck:=ae (show ∀ X,af [] w5 X→Calls Tryz.prog 12 #[dp vb] X fun r w'=>r=.returned (.bool bE)∧af [] X w' from fun X hk=>(LL vb val X (Mw.out.aN hk) pW.out.kind pV.out.lO).mono fun r w' ⟨⟨b,h1,h2⟩,h3⟩=>⟨by rw[h1];congr 2;rw[eL,h2,R8],h3⟩);have hkl:decide ((1048576:Int)<(key.size:Int))=false:=by have:=xG.out;simp;omega
     unfold dp at Ck;clear R8
     rcases bE with _|_
     ·by_cases h3:k=0
      ·have Zj:=ae (show ∀ q,jm l k=some q→tlt q key from fun q hq=>by rw[h3] at hq;simp[jm] at hq);subst h3
       by_cases h1:dl<0
       ·have HT:=ae (show bad=true from zx.out.2 (fun hr=>by have:=hr.dl.1;simp only at this;omega));have g1:decide (dl<0)=true:=by simp[h1]
        refine ek 5 (by kernel_rfl) (by kernel_rfl) ?_;simp only[List.take_succ_cons,List.take_zero,dt,dE]
        iterate 4
         refine dm (fun K hK=>?_);go_simp;refine hK _ _ ?_;clear hK K
        refine dm (fun K hK=>?_);go_simp
        go_at_call 12
        refine(Ck.out _ ((af.refl _ _).drew)).mono ?_;rintro r w7 ⟨rfl,mi⟩;have k7:af [] w5 w7:=((af.refl [] w5).drew).trans mi;have q0:=ak k7 z0;have q6:=ak k7 z6;have K7:=ae k7;clear mi k7;refine hK _ _ ?_;clear hK K;refine fg ?_
        repeat(go_big_quiet_step (fail))
        refine fT ?_;rintro _ ⟨nq,rfl⟩;refine hKc _ _ (gE (zK _ _ ?_))
        (repeat apply Exists.intro)
        refine⟨⟨?_,ae (K7.out.drewN nq)⟩,rfl⟩;rw[HT.out]
       ·have g1:decide (dl<0)=false:=by simp;omega
        by_cases h2:9007199254740992<dl
        ·have HT:=ae (show bad=true from zx.out.2 (fun hr=>by have:=hr.dl.2;simp only at this;omega));have g2:decide (9007199254740992<dl)=true:=by simp[h2]
         refine ek 5 (by kernel_rfl) (by kernel_rfl) ?_;simp only[List.take_succ_cons,List.take_zero,dt,dE]
         iterate 4
          refine dm (fun K hK=>?_);go_simp;refine hK _ _ ?_;clear hK K
         refine dm (fun K hK=>?_);go_simp
         go_at_call 12
         refine(Ck.out _ ((af.refl _ _).drew)).mono ?_;rintro r w7 ⟨rfl,mi⟩;have k7:af [] w5 w7:=((af.refl [] w5).drew).trans mi;have q0:=ak k7 z0;have q6:=ak k7 z6;have K7:=ae k7;clear mi k7;refine hK _ _ ?_;clear hK K;refine fg ?_
         repeat(go_big_quiet_step (fail))
         refine fT ?_;rintro _ ⟨nq,rfl⟩;refine hKc _ _ (gE (zK _ _ ?_))
         (repeat apply Exists.intro)
         refine⟨⟨?_,ae (K7.out.drewN nq)⟩,rfl⟩;rw[HT.out]
        ·have g2:decide (9007199254740992<dl)=false:=by simp;omega
         have HT:=ae (show bad=false from fi.2 (fun hb=>zx.out.1 hb ⟨pW.out,fun he=>(by have:=PZ.out.2 he;cases this),xG.out,⟨by simp only;omega,by simp only;omega⟩,Zj.out⟩));refine ek 5 (by kernel_rfl) (by kernel_rfl) ?_;simp only[List.take_succ_cons,List.take_zero,dt,dE]
         iterate 4
          refine dm (fun K hK=>?_);go_simp;refine hK _ _ ?_;clear hK K
         refine dm (fun K hK=>?_);go_simp
         go_at_call 12
         refine(Ck.out _ ((af.refl _ _).drew)).mono ?_;rintro r w7 ⟨rfl,mi⟩;have k7:af [] w5 w7:=((af.refl [] w5).drew).trans mi;have q0:=ak k7 z0;have q6:=ak k7 z6;have K7:=ae k7;clear mi k7;refine hK _ _ ?_;clear hK K;refine fg ?_
         repeat(go_big_quiet_step (fail))
         refine fT ?_;rintro _ ⟨nq,rfl⟩;refine hKc _ _ (gE (zK _ _ ?_))
         (repeat apply Exists.intro)
         refine⟨⟨?_,ae (K7.out.drewN nq)⟩,rfl⟩;rw[HT.out]
      ·obtain⟨km,hkm⟩:∃ km,km=k-1:=⟨_,rfl⟩;obtain⟨e',he'⟩:∃ e',l[km]?=some e':=⟨_,ag (by rw[HN.out];omega)⟩;obtain⟨g',off',hgg,hcc⟩:=Ji.out (by omega)
       injection hgg with hgg
       injection hgg with hg1 hg2
       subst hg1 hg2;have TL:=ak ((kK.out.trans zt.out).trans AO.out) (hcc km e' he' 0 _ rfl);obtain⟨pk,hpk⟩:∃ pk,e'.d.key=pk:=⟨_,rfl⟩;have z7:w5.cell? ⟨g,off+km*7,none⟩=some (.string pk):=by rw[←hpk];exact TL
       have VA:=ae (show jm l k=some pk from by unfold jm;rw[aJ h3,←hkm,he',←hpk];rfl);have hk0:decide ((0:Int)<(k:Int))=true:=by simp;omega
       have Yf:decide (0<k)=true:=by simp;omega
       have hwk:wrap64 ((k:Int)-1)=(km:Int):=by unfold wrap64;omega
       have hwi:(k:Int)-1=(km:Int):=by omega
       have XG:IntKind.i64.wrap (km:Int)=(km:Int):=by rw[cH];omega
       have Ya:(km:Int)<(n:Int):=by omega
       have Yb:(0:Int)≤(km:Int):=by omega
       obtain⟨bl,hbl⟩:∃ bl,Op.bytesLess pk.toList key.toList=bl:=⟨_,rfl⟩;have hbt:bl=true↔tlt pk key:=by rw[←hbl,ot,cz]
       have Tg:=ae hbt;clear he' hcc TL hpk hkm hbt
       rcases bl with _|_
       ·have HT:=ae (show bad=true from zx.out.2 (fun hr=>by have:=Tg.out.2 (hr.up pk VA.out);cases this));refine ek 5 (by kernel_rfl) (by kernel_rfl) ?_;simp only[List.take_succ_cons,List.take_zero,dt,dE]
        iterate 4
         refine dm (fun K hK=>?_);go_simp;refine hK _ _ ?_;clear hK K
        refine dm (fun K hK=>?_);go_simp
        go_at_call 12
        refine(Ck.out _ ((af.refl _ _).drew)).mono ?_;rintro r w7 ⟨rfl,mi⟩;have k7:af [] w5 w7:=((af.refl [] w5).drew).trans mi;have q0:=ak k7 z0;have q6:=ak k7 z6;have q7:=ak k7 z7;have K7:=ae k7;clear mi k7;refine hK _ _ ?_;clear hK K;refine fg ?_
        repeat(go_big_quiet_step (fail))
        refine fT ?_;rintro _ ⟨nq,rfl⟩;refine hKc _ _ (gE (zK _ _ ?_))
        (repeat apply Exists.intro)
        refine⟨⟨?_,ae (K7.out.drewN nq)⟩,rfl⟩;rw[HT.out]
       ·have Zj:=ae (show ∀ q,jm l k=some q→tlt q key from fun q hq=>by rw[VA.out] at hq;rw[←cK hq];exact Tg.out.1 rfl)
        by_cases h1:dl<0
        ·have HT:=ae (show bad=true from zx.out.2 (fun hr=>by have:=hr.dl.1;simp only at this;omega));have g1:decide (dl<0)=true:=by simp[h1]
         refine ek 5 (by kernel_rfl) (by kernel_rfl) ?_;simp only[List.take_succ_cons,List.take_zero,dt,dE]
         iterate 4
          refine dm (fun K hK=>?_);go_simp;refine hK _ _ ?_;clear hK K
         refine dm (fun K hK=>?_);go_simp
         go_at_call 12
         refine(Ck.out _ ((af.refl _ _).drew)).mono ?_;rintro r w7 ⟨rfl,mi⟩;have k7:af [] w5 w7:=((af.refl [] w5).drew).trans mi;have q0:=ak k7 z0;have q6:=ak k7 z6;have q7:=ak k7 z7;have K7:=ae k7;clear mi k7;refine hK _ _ ?_;clear hK K;refine fg ?_
         repeat(go_big_quiet_step (fail))
         refine fT ?_;rintro _ ⟨nq,rfl⟩;refine hKc _ _ (gE (zK _ _ ?_))
         (repeat apply Exists.intro)
         refine⟨⟨?_,ae (K7.out.drewN nq)⟩,rfl⟩;rw[HT.out]
        ·have g1:decide (dl<0)=false:=by simp;omega
         by_cases h2:9007199254740992<dl
         ·have HT:=ae (show bad=true from zx.out.2 (fun hr=>by have:=hr.dl.2;simp only at this;omega));have g2:decide (9007199254740992<dl)=true:=by simp[h2]
          refine ek 5 (by kernel_rfl) (by kernel_rfl) ?_;simp only[List.take_succ_cons,List.take_zero,dt,dE]
          iterate 4
           refine dm (fun K hK=>?_);go_simp;refine hK _ _ ?_;clear hK K
          refine dm (fun K hK=>?_);go_simp
          go_at_call 12
          refine(Ck.out _ ((af.refl _ _).drew)).mono ?_;rintro r w7 ⟨rfl,mi⟩;have k7:af [] w5 w7:=((af.refl [] w5).drew).trans mi;have q0:=ak k7 z0;have q6:=ak k7 z6;have q7:=ak k7 z7;have K7:=ae k7;clear mi k7;refine hK _ _ ?_;clear hK K;refine fg ?_
          repeat(go_big_quiet_step (fail))
          refine fT ?_;rintro _ ⟨nq,rfl⟩;refine hKc _ _ (gE (zK _ _ ?_))
          (repeat apply Exists.intro)
          refine⟨⟨?_,ae (K7.out.drewN nq)⟩,rfl⟩;rw[HT.out]
         ·have g2:decide (9007199254740992<dl)=false:=by simp;omega
          have HT:=ae (show bad=false from fi.2 (fun hb=>zx.out.1 hb ⟨pW.out,fun he=>(by have:=PZ.out.2 he;cases this),xG.out,⟨by simp only;omega,by simp only;omega⟩,Zj.out⟩));refine ek 5 (by kernel_rfl) (by kernel_rfl) ?_;simp only[List.take_succ_cons,List.take_zero,dt,dE]
          iterate 4
           refine dm (fun K hK=>?_);go_simp;refine hK _ _ ?_;clear hK K
          refine dm (fun K hK=>?_);go_simp
          go_at_call 12
          refine(Ck.out _ ((af.refl _ _).drew)).mono ?_;rintro r w7 ⟨rfl,mi⟩;have k7:af [] w5 w7:=((af.refl [] w5).drew).trans mi;have q0:=ak k7 z0;have q6:=ak k7 z6;have q7:=ak k7 z7;have K7:=ae k7;clear mi k7;refine hK _ _ ?_;clear hK K;refine fg ?_
          repeat(go_big_quiet_step (fail))
          refine fT ?_;rintro _ ⟨nq,rfl⟩;refine hKc _ _ (gE (zK _ _ ?_))
          (repeat apply Exists.intro)
          refine⟨⟨?_,ae (K7.out.drewN nq)⟩,rfl⟩;rw[HT.out]
     ·have HT:=ae (show bad=true from zx.out.2 (fun hr=>hr.ne (PZ.out.1 rfl)));refine ek 5 (by kernel_rfl) (by kernel_rfl) ?_;simp only[List.take_succ_cons,List.take_zero,dt,dE]
      iterate 4
       refine dm (fun K hK=>?_);go_simp;refine hK _ _ ?_;clear hK K
      refine dm (fun K hK=>?_);go_simp
      go_at_call 12
      refine(Ck.out _ ((af.refl _ _).drew)).mono ?_;rintro r w7 ⟨rfl,mi⟩;have k7:af [] w5 w7:=((af.refl [] w5).drew).trans mi;have q0:=ak k7 z0;have q6:=ak k7 z6;have K7:=ae k7;clear mi k7;refine hK _ _ ?_;clear hK K;refine fg ?_
      repeat(go_big_quiet_step (fail))
      refine fT ?_;rintro _ ⟨nq,rfl⟩;refine hKc _ _ (gE (zK _ _ ?_))
      (repeat apply Exists.intro)
      refine⟨⟨?_,ae (K7.out.drewN nq)⟩,rfl⟩;rw[HT.out]
    case rest=>as_aux_lemma=>
     obtain⟨rfl,zA⟩:=hcut;obtain⟨x0,rfl⟩:∃ x0,x0=wr:=⟨_,rfl⟩
     rcases bad with _|_
     case true=>
      have HBAD:=ae (HV.out.bad HE.out (zx.out.1 (by first|rfl|trivial)));go_wp2_with fail
      go_ret2
      exact⟨((kK.out.trans zt.out).trans AO.out).trans zA.out,.inl ⟨HBAD.out,rfl⟩⟩
     case false=>
      have hrow:s7 (jm l k) ⟨key,val,dl⟩:=gq fun hn=>by have:=zx.out.2 hn;first|cases this|exact this
      have fN:=ae hrow;have VL:=ae (((kK.out.trans zt.out).trans AO.out).trans zA.out);have HX:=ae ((zt.out.trans AO.out).trans zA.out);have vV:=ae (Ka (Mw.out.aN zA.out) pW.out Ch.out);unfold dp at vV;clear hrow z0 z6;go_wp2_with fail
      refine vV.out.mono ?_;rintro r w7 ⟨q,iv,pv,rv,rfl,hat,hnq,mi⟩;obtain⟨ai,ni,ci,rfl⟩:∃ a n c,iv=.slice a n c:=by obtain⟨_,_,e,_⟩:=hat.items.form;exact⟨_,_,_,e⟩
      obtain⟨ap,np,cp,rfl⟩:∃ a n c,pv=.slice a n c:=by obtain⟨_,_,e,_⟩:=hat.bL.form;exact⟨_,_,_,e⟩
      obtain⟨ar,nr,cr,rfl⟩:∃ a n c,rv=.slice a n c:=by obtain⟨_,_,e,_⟩:=hat.bI.form;exact⟨_,_,_,e⟩
      obtain⟨w8,hw8⟩:∃ w8,w7.alloc (.cells #[.int .i64 q.kind,.string q.text,.slice ai ni ci,.slice ap np cp,.slice ar nr cr] 36)=w8:=⟨_,rfl⟩;have zy:af [] w7 w8:=by rw[←hw8];exact(af.refl _ _).alloc _
      have Cp:w8.heap[w7.heap.size]?=some (.cells #[.int .i64 q.kind,.string q.text,.slice ai ni ci,.slice ap np cp,.slice ar nr cr] 36 (0,0)):=by rw[←hw8];exact aG _ _
      have TB:=ae (show ∀ X,af [] w8 X→X.cell? ⟨w7.heap.size,0,none⟩=some (.int .i64 q.kind)∧X.cell? ⟨w7.heap.size,1,none⟩=some (.string q.text)∧X.cell? ⟨w7.heap.size,2,none⟩=some (.slice ai ni ci)∧X.cell? ⟨w7.heap.size,3,none⟩=some (.slice ap np cp)∧X.cell? ⟨w7.heap.size,4,none⟩=some (.slice ar nr cr)∧X.cell? ⟨x0.heap.size,0,none⟩=some (.string key)∧X.cell? ⟨x0.heap.size,6,none⟩=some (.int .i64 dl) from fun X hk=>by
       have h2:=hk.get Cp (by simp);have h4:=((((AO.out.trans zA.out).trans mi).trans zy).trans hk).get HB3.out (by simp);unfold pL at h4
       exact⟨by rw[ah h2];rfl,by rw[ah h2];rfl,by rw[ah h2];rfl,by rw[ah h2];rfl,by rw[ah h2];rfl,by rw[ah h4];rfl,by rw[ah h4];rfl⟩)
      have G5:=ae (show ∀ X,af [] w8 X→∃ bc:Array Value,X.heap[x0.heap.size]?=some (.cells bc 38 (0,0)) from fun X hk=>⟨_,((((AO.out.trans zA.out).trans mi).trans zy).trans hk).get HB3.out (by simp)⟩);have HX8:=ae ((HX.out.trans mi).trans zy);have HAT:=ae hat;have TD:=ae hnq;have Cr:=ae ((VL.out.trans mi).trans zy);obtain⟨c0,c1,c2,c3,c4,c5,c6⟩:=TB.out w8 (af.refl _ _);have hrr:=hat.bI.row mF.n;have hnr:=hrr.yH;obtain⟨_,_,hre,_,_,_,hrc⟩:=hrr.lN
      injection hre with hre h7a h7b
      subst hre;clear h7a h7b;rw[←hnr] at hrc;have Zw:=ae hrc;have VF:=ae hnr;have IE:nr≤1048576:=by have:=hnq.lens.2.2;have:=pV.out.mN;omega
      have G4:=ae (show ∀ x∈q.bI,x.2<18446744073709551616 from fun x hx=>Ch.out x ((hnq.bI.2 x).1 hx));have HPR:=ae (fun(X:World) (hk:af [] w8 X) (x:Nat) (hx:x<18446744073709551616)=>qM.out.print X ((((VL.out.trans mi).trans zy).trans hk).ep qM.out.szb (by simp)) x hx);have hpr:=hat.bL.row qd.n;have hnp:=hpr.yH;obtain⟨_,_,hpe,_,_,_,hpc⟩:=hpr.bL
      injection hpe with hpe h9a h9b
      subst hpe;clear h9a h9b;rw[←hnp] at hpc;have Zy:=ae hpc;have Tb:=ae hnp;have IF:np≤1048576:=by have:=hnq.lens.2.1;have:=pV.out.mO;omega
      have hir:=hat.items.row dR.n;have hni:=hir.yH;obtain⟨_,_,hie,_,_,_,hic⟩:=hir.texts
      injection hie with hie h8a h8b
      subst hie;clear h8a h8b;rw[←hni] at hic;have ZI:=ae hic;have wS:=ae hni;have Vm:=ae zy;have IG:ni≤1048576:=by have:=hnq.lens.1;have:=pV.out.lO;omega
      clear hat hnq mi zy Cp hir hni hic hpr hnp hpc hrr hnr hrc;go_wp2_with fail
      go_loopw [72,10,12] (fun i g _ X=>∃ (j:Nat) (gv:Value) (pg:List EF),i=.int .i64 (j:Int)∧gv=g∧j≤ni∧Hid (dI w8.heap.size X gv pg∧wsE pg=(q.items.take j).map (fun x=>[x])∧af [] w8 X)) (fun i _ _ _=>ni-(intOf i).toNat)
      case atStart=>exact⟨0,_,[],rfl,rfl,bz _,ae ⟨dI.nil _ _,rfl,by first|exact af.refl _ _|(rw[hw8];exact af.refl _ _)⟩⟩
      case round=>
       obtain⟨j,gv,pg,rfl,rfl,hj,HG⟩:=hrel
       by_cases hj2:j<ni
       ·obtain⟨x,hx⟩:∃ x,q.items[j]?=some x:=⟨_,ag (by rw[←wS.out];exact hj2)⟩;obtain⟨ig,Uo,rfl,hcc⟩:=ZI.out (by omega);have d0:=ak (Vm.out.trans HG.out.2.2) (hcc j x hx);have hjn:(j:Int)<(ni:Int):=by omega
        have zu:=ae (show pg.length=j by have:=congrArg List.length HG.out.2.1;unfold wsE at this;simp at this;have:=wS.out;omega);have HT:=ae (show(q.items.take (j+1)).map (fun x=>[x])=(q.items.take j).map (fun x=>[x])++[[x]] from iQ _ hx);clear hx hcc;go_wp2_with (at_builtin;go_loud (refine yy rfl _ _ rfl w8.heap.size gv pg.length pg ⟨wr.heap.size,1,[x]⟩ rfl (HG.out.1.aN ((af.refl _ _).alloc _)).row rfl (by simp;rfl) (by have:=zu.out;omega) (by have:=HG.out.2.2.size;simp;omega) ?_;intro g9 c9 w9 hp;have wR:=ae hp;clear hp))
        go_roundw
        case rel=>obtain⟨a1,a2⟩:=HG.out.1.vh (ws:=[x]) HG.out.2.2.size (by simp[maxLen]) wR.out;exact⟨j+1,_,_,by go_num,rfl,by omega,ae ⟨a1,by rw[HT.out,←HG.out.2.1];simp[wsE],a2 w8 (aq _) HG.out.2.2⟩⟩
        case measure=>simp[intOf];omega
       ·obtain rfl:j=ni:=by omega
        rw[show q.items.take j=q.items from aE (by rw[←wS.out];exact aq _)] at HG;have e3:=(TB.out wr HG.out.2.2).2.2.2.1;have ZN:Hid (dI w8.heap.size wr gv pg∧wsE pg=q.items.map (fun x=>[x])++(q.bL.take 0).map (fun x=>[x.1,x.2])∧af [] w8 wr):=ae ⟨HG.out.1,by rw[HG.out.2.1];simp,HG.out.2.2⟩;clear HG;go_wp2_with fail
        go_loopw [85,10,14] (fun i g _ X=>∃ (j:Nat) (gv:Value) (pg:List EF),i=.int .i64 (j:Int)∧gv=g∧j≤np∧Hid (dI w8.heap.size X gv pg∧wsE pg=q.items.map (fun x=>[x])++(q.bL.take j).map (fun x=>[x.1,x.2])∧af [] w8 X)) (fun i _ _ _=>np-(intOf i).toNat)
        case atStart=>exact⟨0,_,_,rfl,rfl,bz _,ZN⟩
        case round=>
         clear e3;obtain⟨m,gv,pg,rfl,rfl,hm,HG⟩:=hrel
         by_cases hm2:m<np
         ·obtain⟨x,hx⟩:∃ x,q.bL[m]?=some x:=⟨_,ag (by rw[←Tb.out];exact hm2)⟩;obtain⟨ig,Uo,rfl,hcc⟩:=Zy.out (by omega);have d0:=ak (Vm.out.trans HG.out.2.2) (hcc m x hx).1;have d1:=ak (Vm.out.trans HG.out.2.2) (hcc m x hx).2;have hmn:(m:Int)<(np:Int):=by omega
          obtain⟨x1,x2⟩:=x;simp only at d0 d1;obtain⟨w4,hw4⟩:∃ w4,wr.alloc (.cells #[.string x1,.string x2] 51)=w4:=⟨_,rfl⟩;have hk4:af [] wr w4:=by rw[←hw4];exact(af.refl _ wr).alloc _
          have g0:w4.cell? ⟨wr.heap.size,0,none⟩=some (.string x1):=by rw[←hw4,ah (aG wr _)];rfl
          have g1:w4.cell? ⟨wr.heap.size,1,none⟩=some (.string x2):=by rw[←hw4,ah (aG wr _)];rfl
          have zu:=ae (show pg.length≤2097152 by have:=congrArg List.length HG.out.2.1;unfold wsE at this;simp at this;have:=wS.out;omega);have HT:=ae (show(q.bL.take (m+1)).map (fun x=>[x.1,x.2])=(q.bL.take m).map (fun x=>[x.1,x.2])++[[x1,x2]] from iQ _ hx);have PX:=ae (HG.out.1.aN hk4);have Tw:=ae (HG.out.2.2.trans hk4);clear hx hcc hk4;go_wp2_with (at_builtin;go_loud (refine yy rfl _ _ rfl w8.heap.size gv pg.length pg ⟨w4.heap.size,2,[x1,x2]⟩ rfl (PX.out.aN ((af.refl _ _).alloc _)).row rfl (by simp;rfl) (by have:=zu.out;omega) (by have:=Tw.out.size;simp;omega) ?_;intro g9 c9 w9 hp;have wR:=ae hp;clear hp))
          go_roundw
          case rel=>obtain⟨a1,a2⟩:=PX.out.vh (ws:=[x1,x2]) Tw.out.size (by simp[maxLen]) wR.out;exact⟨m+1,_,_,by go_num,rfl,by omega,ae ⟨a1,by rw[HT.out,←aD,←HG.out.2.1];simp[wsE],a2 w8 (aq _) Tw.out⟩⟩
          case measure=>simp[intOf];omega
         ·obtain rfl:m=np:=by omega
          rw[show q.bL.take m=q.bL from aE (by rw[←Tb.out];exact aq _)] at HG;have e4:=(TB.out wr HG.out.2.2).2.2.2.2.1;have ZN:Hid (dI w8.heap.size wr gv pg∧wsE pg=q.items.map (fun x=>[x])++q.bL.map (fun x=>[x.1,x.2])++(q.bI.take 0).map (fun x=>[pr x.2,x.1])∧af [] w8 wr):=ae ⟨HG.out.1,by rw[HG.out.2.1];simp,HG.out.2.2⟩;clear HG;go_wp2_with fail
          go_loopw [101,10,16] (fun i g _ X=>∃ (j:Nat) (gv:Value) (pg:List EF),i=.int .i64 (j:Int)∧gv=g∧j≤nr∧Hid (dI w8.heap.size X gv pg∧wsE pg=q.items.map (fun x=>[x])++q.bL.map (fun x=>[x.1,x.2])++(q.bI.take j).map (fun x=>[pr x.2,x.1])∧af [] w8 X)) (fun i _ _ _=>nr-(intOf i).toNat)
          case atStart=>exact⟨0,_,_,rfl,rfl,bz _,ZN⟩
          case round=>
           clear e4;obtain⟨b,gv,pg,rfl,rfl,hbb,HG⟩:=hrel
           by_cases hb2:b<nr
           ·obtain⟨x,hx⟩:∃ x,q.bI[b]?=some x:=⟨_,ag (by rw[←VF.out];exact hb2)⟩;obtain⟨ig,Uo,rfl,hcc⟩:=Zw.out (by omega);have d0:=ak (Vm.out.trans HG.out.2.2) (hcc b x hx).1;have d1:=ak (Vm.out.trans HG.out.2.2) (hcc b x hx).2;have hbn:(b:Int)<(nr:Int):=by omega
            have hxl:=G4.out x (aB hx);obtain⟨x1,x2⟩:=x;simp only at d0 d1 hxl;obtain⟨w4,hw4⟩:∃ w4,wr.alloc (.cells #[.string x1,.float .f64 x2] 54)=w4:=⟨_,rfl⟩;have hk4:af [] wr w4:=by rw[←hw4];exact(af.refl _ wr).alloc _
            have g0:w4.cell? ⟨wr.heap.size,0,none⟩=some (.string x1):=by rw[←hw4,ah (aG wr _)];rfl
            have g1:w4.cell? ⟨wr.heap.size,1,none⟩=some (.float .f64 x2):=by rw[←hw4,ah (aG wr _)];rfl
            have zu:=ae (show pg.length≤4194304 by have:=congrArg List.length HG.out.2.1;unfold wsE at this;simp at this;have:=wS.out;have:=Tb.out;omega);have HT:=ae (show(q.bI.take (b+1)).map (fun x=>[pr x.2,x.1])=(q.bI.take b).map (fun x=>[pr x.2,x.1])++[[pr x2,x1]] from iQ _ hx);have PX:=ae (HG.out.1.aN hk4);have Tw:=ae (HG.out.2.2.trans hk4);have HNG:=ae (show gv.ownBlock≠some wr.heap.size from fun e=>by have:=(HG.out.1.row.lt _ e).2;omega);have Vy:=ae (HPR.out w4.drew (Tw.out.drew) x2 hxl);clear hx hcc hk4 hxl;go_wp2_with fail
            go_region_held3 (fun X=>X.cell? ⟨wr.heap.size,0,none⟩=some (.string x1)∧X.cell? ⟨wr.heap.size,1,none⟩=some (.float .f64 x2))
             (first|exact⟨g0,g1⟩|exact⟨q0,q1⟩|exact⟨ak ((af.refl [] _).alloc _) q0,ak ((af.refl [] _).alloc _) q1⟩|exact⟨ak (((af.refl [] _).alloc _).alloc _) q0,ak (((af.refl [] _).alloc _).alloc _) q1⟩|exact⟨s0,s1⟩|(go_keep;done))
             (first
              | (go_at_call 14;refine Vy.out.mono ?_;rintro r w5 ⟨rfl,hk5⟩;have Um:=((af.refl [] w4).drew).trans hk5;have q0:=ak Um g0;have q1:=ak Um g1;have HE5:=ae (PX.out.aN Um);have Zb:=ae (Tw.out.trans Um);clear hk5 Um)
              | (refine JH rfl _ _ rfl w8.heap.size gv pg.length pg ⟨w5.heap.size,2,[pr x2,x1]⟩ rfl (HE5.out.aN ((af.refl _ _).alloc _)).row rfl (by simp;rfl) (aF zu.out (by decide)) (aF Zb.out.size (by simp)) ?_;intro g9 c9 w9 hp;have wR:=ae hp;have hpn:=HE5.out.vh (ws:=[pr x2,x1]) Zb.out.size (by simp[maxLen]) hp;have PO:=ae hpn;have s0:=eM hp.bY (ak ((af.refl [] w5).alloc _) q0) (by simpa using HNG.out);have s1:=eM hp.bY (ak ((af.refl [] w5).alloc _) q1) (by simpa using HNG.out);clear hp hpn))
            go_wp2_with fail
            go_roundw
            case rel=>exact⟨b+1,_,_,by go_num,rfl,by omega,ae ⟨PO.out.1,by rw[HT.out,←aD,←HG.out.2.1];simp[wsE],PO.out.2 w8 (aq _) Zb.out⟩⟩
            case measure=>simp[intOf];omega
           ·obtain rfl:b=nr:=by omega
            rw[show q.bI.take b=q.bI from aE (by rw[←VF.out];exact aq _)] at HG;have qN:Hid (dI w8.heap.size wr gv pg∧wsE pg=eV pr q∧af [] w8 wr):=ae HG.out;have e0:=(TB.out wr HG.out.2.2).1;clear HG;have tX:=ae (show ∀ X,af [] w8 X→dI w.heap.size X v es from fun X hk=>HV.out.o.aN (HX8.out.trans hk))
            have hgl:pg.length≤1048576:=by have h1:=congrArg List.length qN.out.2.1;have h2:=pJ TD.out pV.out pr;have h3:=pV.out.b;simp only[wsE,aU] at h1;omega
            have hel:es.length≤2097152:=by have h1:=HV.out.len;have h2:=rG l k;have h3:=MY.out;omega
            have zu:=ae hgl;have o8:=ae hel;clear hgl hel;obtain⟨kq,hkq⟩:∃ kq,q.kind=kq:=⟨_,rfl⟩;rw[hkq] at e0;have MB:=ae hkq;clear hkq
            go_upto_block 8 with(fail)
            go_cut [4] (fun o wx=>∃ (ov:Value) (es2:List EF),ov=o∧Hid (dI w.heap.size wx ov es2∧wsE es2=wsE es++(if q.kind=1 then [[iS 1,key,q.text]] else parts (iS q.kind) key (eV pr q).length (eV pr q))∧af v.ownBlock.toList w8 wx))
            case first Jc Kc zK hKc=>as_aux_lemma=>
             have HFT:=ae (show Fits (iS q.kind) key (wsE pg) from by
              rw[qN.out.2.1];intro g hg;have h2:=(rz TD.out pV.out Ch.out qM.out.short g hg).2;have h3:=oI q.kind;have h4:=xG.out
              simp[dz];omega)
             have Zk:=ae (show ∀ e∈pg,e.ws.length≤2 from fun e he=>yY pr q e.ws (by rw[←qN.out.2.1];exact aV.2 ⟨e,he,rfl⟩));obtain⟨_,e1,_,_,_,e5,e6⟩:=TB.out wr qN.out.2.2;have hks:=pW.out.kind.hk;rw[←TD.out.kind,MB.out] at hks;have h5:kq=1∨kq=2∨kq=3∨kq=4∨kq=5:=by omega
             have PN:=ae (Ht (iS q.kind) key gv pg wr (qN.out.1.row.row nJ.n) (fun e he=>(qN.out.1.each e he).row dR.n) HFT.out (aF zu.out (by decide)) Zk.out);clear hks
             rcases h5 with rfl|rfl|rfl|rfl|rfl
             ·have hnm:iS q.kind=⟨#[83,69,84]⟩:=by rw[MB.out];rfl
              have Cf:=ae hnm;have qg:=ae MB.out;clear hnm;go_wp2_with (at_builtin;go_loud (refine yy rfl _ _ rfl w.heap.size v es.length es ⟨wr.heap.size,3,[⟨#[83,69,84]⟩,key,q.text]⟩ rfl ((tX.out wr qN.out.2.2).aN ((af.refl _ _).alloc _)).row rfl (by simp;rfl) (by have:=o8.out;omega) (by have:=(Cr.out.trans qN.out.2.2).size;simp;omega) ?_;intro g9 c9 w9 hp;have wR:=ae hp;clear hp))
              obtain⟨a1,a2⟩:=(tX.out wr qN.out.2.2).vh (ws:=[⟨#[83,69,84]⟩,key,q.text]) (Cr.out.trans qN.out.2.2).size (by simp[maxLen]) wR.out;go_meet;refine⟨_,_,rfl,ae ⟨a1,?_,?_⟩⟩
              ·rw[aQ qg.out];simp[wsE,iS]
              ·exact((qN.out.2.2.alloc _).mono (by simp)).trans wR.out.bY
             ·have hnm:iS q.kind=⟨#[82,80,85,83,72]⟩:=by rw[MB.out];rfl
              have Cf:=ae hnm;have qg:=ae (show ¬q.kind=1 by rw[MB.out];decide);rw[hnm] at PN;clear hnm;go_wp2_with fail
              refine PN.out.mono ?_;rintro r w9 ⟨v2,IL,rfl,hE,hW,hK⟩;have HE:=ae hE;have HW:=ae hW;have Cg:=ae hK;clear hE hW hK;go_wp2_with (at_builtin;go_loud (refine jw.u6 rfl _ _ rfl w.heap.size v es IL v2 rfl (tX.out w9 (qN.out.2.2.trans Cg.out)).row rfl (HE.out.row.row nJ.n) (by have:=o8.out;omega) (by have h1:=congrArg List.length HW.out;have h2:=ou ⟨#[82,80,85,83,72]⟩ key pg.length (wsE pg);have:=zu.out;simp only[wsE,aU] at h1 h2;omega) (by have:=((Cr.out.trans qN.out.2.2).trans Cg.out).size;omega) ?_;intro v9 Jt hp;have wR:=ae hp;clear hp))
              go_meet;refine⟨_,_,rfl,ae ⟨(tX.out w9 (qN.out.2.2.trans Cg.out)).app HE.out (Cr.out.trans qN.out.2.2).size (fun b hb=>?_) wR.out,?_,((qN.out.2.2.trans Cg.out).mono (by simp)).trans wR.out.bY⟩⟩
              ·exact((tX.out wr qN.out.2.2).lt b (bA _ hb)).2
              ·rw[aJ qg.out,Cf.out];have h1:=HW.out;have h2:=qN.out.2.1;rw[h2,show pg.length=(eV pr q).length from by have:=congrArg List.length h2;simpa[wsE] using this] at h1;rw[←h1];simp[wsE]
             ·have hnm:iS q.kind=⟨#[72,83,69,84]⟩:=by rw[MB.out];rfl
              have Cf:=ae hnm;have qg:=ae (show ¬q.kind=1 by rw[MB.out];decide);rw[hnm] at PN;clear hnm;go_wp2_with fail
              refine PN.out.mono ?_;rintro r w9 ⟨v2,IL,rfl,hE,hW,hK⟩;have HE:=ae hE;have HW:=ae hW;have Cg:=ae hK;clear hE hW hK;go_wp2_with (at_builtin;go_loud (refine jw.u6 rfl _ _ rfl w.heap.size v es IL v2 rfl (tX.out w9 (qN.out.2.2.trans Cg.out)).row rfl (HE.out.row.row nJ.n) (by have:=o8.out;omega) (by have h1:=congrArg List.length HW.out;have h2:=ou ⟨#[72,83,69,84]⟩ key pg.length (wsE pg);have:=zu.out;simp only[wsE,aU] at h1 h2;omega) (by have:=((Cr.out.trans qN.out.2.2).trans Cg.out).size;omega) ?_;intro v9 Jt hp;have wR:=ae hp;clear hp))
              go_meet;refine⟨_,_,rfl,ae ⟨(tX.out w9 (qN.out.2.2.trans Cg.out)).app HE.out (Cr.out.trans qN.out.2.2).size (fun b hb=>?_) wR.out,?_,((qN.out.2.2.trans Cg.out).mono (by simp)).trans wR.out.bY⟩⟩
              ·exact((tX.out wr qN.out.2.2).lt b (bA _ hb)).2
              ·rw[aJ qg.out,Cf.out];have h1:=HW.out;have h2:=qN.out.2.1;rw[h2,show pg.length=(eV pr q).length from by have:=congrArg List.length h2;simpa[wsE] using this] at h1;rw[←h1];simp[wsE]
             ·have hnm:iS q.kind=⟨#[83,65,68,68]⟩:=by rw[MB.out];rfl
              have Cf:=ae hnm;have qg:=ae (show ¬q.kind=1 by rw[MB.out];decide);rw[hnm] at PN;clear hnm;go_wp2_with fail
              refine PN.out.mono ?_;rintro r w9 ⟨v2,IL,rfl,hE,hW,hK⟩;have HE:=ae hE;have HW:=ae hW;have Cg:=ae hK;clear hE hW hK;go_wp2_with (at_builtin;go_loud (refine jw.u6 rfl _ _ rfl w.heap.size v es IL v2 rfl (tX.out w9 (qN.out.2.2.trans Cg.out)).row rfl (HE.out.row.row nJ.n) (by have:=o8.out;omega) (by have h1:=congrArg List.length HW.out;have h2:=ou ⟨#[83,65,68,68]⟩ key pg.length (wsE pg);have:=zu.out;simp only[wsE,aU] at h1 h2;omega) (by have:=((Cr.out.trans qN.out.2.2).trans Cg.out).size;omega) ?_;intro v9 Jt hp;have wR:=ae hp;clear hp))
              go_meet;refine⟨_,_,rfl,ae ⟨(tX.out w9 (qN.out.2.2.trans Cg.out)).app HE.out (Cr.out.trans qN.out.2.2).size (fun b hb=>?_) wR.out,?_,((qN.out.2.2.trans Cg.out).mono (by simp)).trans wR.out.bY⟩⟩
              ·exact((tX.out wr qN.out.2.2).lt b (bA _ hb)).2
              ·rw[aJ qg.out,Cf.out];have h1:=HW.out;have h2:=qN.out.2.1;rw[h2,show pg.length=(eV pr q).length from by have:=congrArg List.length h2;simpa[wsE] using this] at h1;rw[←h1];simp[wsE]
             ·have hnm:iS q.kind=⟨#[90,65,68,68]⟩:=by rw[MB.out];rfl
              have Cf:=ae hnm;have qg:=ae (show ¬q.kind=1 by rw[MB.out];decide);rw[hnm] at PN;clear hnm;go_wp2_with fail
              refine PN.out.mono ?_;rintro r w9 ⟨v2,IL,rfl,hE,hW,hK⟩;have HE:=ae hE;have HW:=ae hW;have Cg:=ae hK;clear hE hW hK;go_wp2_with (at_builtin;go_loud (refine jw.u6 rfl _ _ rfl w.heap.size v es IL v2 rfl (tX.out w9 (qN.out.2.2.trans Cg.out)).row rfl (HE.out.row.row nJ.n) (by have:=o8.out;omega) (by have h1:=congrArg List.length HW.out;have h2:=ou ⟨#[90,65,68,68]⟩ key pg.length (wsE pg);have:=zu.out;simp only[wsE,aU] at h1 h2;omega) (by have:=((Cr.out.trans qN.out.2.2).trans Cg.out).size;omega) ?_;intro v9 Jt hp;have wR:=ae hp;clear hp))
              go_meet;refine⟨_,_,rfl,ae ⟨(tX.out w9 (qN.out.2.2.trans Cg.out)).app HE.out (Cr.out.trans qN.out.2.2).size (fun b hb=>?_) wR.out,?_,((qN.out.2.2.trans Cg.out).mono (by simp)).trans wR.out.bY⟩⟩
              ·exact((tX.out wr qN.out.2.2).lt b (bA _ hb)).2
              ·rw[aJ qg.out,Cf.out];have h1:=HW.out;have h2:=qN.out.2.1;rw[h2,show pg.length=(eV pr q).length from by have:=congrArg List.length h2;simpa[wsE] using this] at h1;rw[←h1];simp[wsE]
            case rest=>
             obtain⟨ov,es2,rfl,HO⟩:=hcut
             have ZB:=ae (show v.ownBlock≠some x0.heap.size from by
              obtain⟨bc,hbc⟩:=G5.out w8 (af.refl _ _)
              exact(tX.out w8 (af.refl _ _)).row.bw hbc (by decide))
             have Wq:=ae (Cr.out.step HO.out.2.2 (fun b hb=>.inr ((tX.out w8 (af.refl _ _)).row.lt b (by simpa using hb)).1));obtain⟨_,_,_,_,_,p5,p6⟩:=TB.out w8 (af.refl _ _);have e5:=eM HO.out.2.2 p5 (by simpa using ZB.out);have e6:=eM HO.out.2.2 p6 (by simpa using ZB.out);clear e0 p5 p6
             have kN:=ae (show es2.length≤es.length+nQ val+1 from by
              have h1:=congrArg List.length HO.out.2.1;have h2:=DJ TD.out pV.out pr key;simp only[wsE,aM,aU] at h1 h2
              omega)
             by_cases hd0:0<dl
             ·have hd1:decide (0<dl)=true:=by simp[hd0]
              have hdb:=fN.out.dl.2;simp only at hdb;obtain⟨dn,rfl⟩:∃ dn:Nat,dl=(dn:Int):=⟨dl.toNat,by omega⟩;have HT:=ae (Ni dn wc.drew (by omega))
              have sh:=ae (show ov.ownBlock≠some x0.heap.size from by
               obtain⟨bc,hbc⟩:=G5.out w8 (af.refl _ _)
               exact HO.out.1.row.bw (HO.out.2.2.get hbc (by simpa using ZB.out)) (by decide))
              have HL2:=ae (show es2.length≤8388608 from by have:=kN.out;have:=o8.out;have:=pV.out.b;omega);have Cq:=ae (HO.out.1.aN (af.refl [] wc).drew);have HD0:=ae hd0;have hd2:decide (0<dn)=true:=by simp;omega
              clear hd0 hdb;go_wp2_with fail
              go_region_held3 (fun X=>X.cell? ⟨x0.heap.size,0,none⟩=some (.string key)∧X.cell? ⟨x0.heap.size,6,none⟩=some (.int .i64 (dn:Int)))
               (first|exact⟨e5,e6⟩|exact⟨ak ((af.refl [] _).alloc _) e5,ak ((af.refl [] _).alloc _) e6⟩|exact⟨ak (((af.refl [] _).alloc _).alloc _) e5,ak (((af.refl [] _).alloc _).alloc _) e6⟩|exact⟨s0,s1⟩|(go_keep;done))
               (first
                | (go_at_call 16;refine HT.out.mono ?_;rintro r w5 ⟨rfl,rfl⟩)
                | (refine JH rfl _ _ rfl w.heap.size ov es2.length es2 ⟨wc.drew.heap.size,3,[od,key,ks.qt (dn:Int)]⟩ rfl (Cq.out.aN ((af.refl _ _).alloc _)).row rfl (by simp;rfl) HL2.out (aF Wq.out.size (by simp)) ?_;intro g9 c9 w9 hp;have wR:=ae hp;have hpn:=Cq.out.vh (ws:=[od,key,ks.qt (dn:Int)]) (Wq.out.drew).size (by simp[maxLen]) hp;have PO:=ae hpn;have s0:=eM hp.bY (ak ((af.refl [] wc.drew).alloc _) e5) (by simpa using sh.out);have s1:=eM hp.bY (ak ((af.refl [] wc.drew).alloc _) e6) (by simpa using sh.out);clear hp hpn))
              have zr:Hid (RdI pr tx w l (k+1) w9 _ (es2++[⟨wc.drew.heap.size,3,[od,key,ks.qt (dn:Int)]⟩])):=ae (HV.out.next HE.out fN.out TD.out PO.out.1 (PO.out.2 w (aq _) Wq.out.drew) (by have:=kN.out;simp;omega) (by
               have h1:=HO.out.2.1;have h2:=qM.out.text (dn:Int) HD0.out (by have:=fN.out.dl.2;simpa using this);unfold wsE at h1;rw[aZ,h1];unfold vG
               rw[aQ HD0.out,h2,aD];rfl))
              go_wp2_with fail
              exact⟨⟨k+1,_,_,by go_num,rfl,by omega,zr⟩,by simp[intOf];omega⟩
             ·have hd1:decide (0<dl)=false:=by simp;omega
              have zr:Hid (RdI pr tx w l (k+1) wc ov es2):=ae (HV.out.next HE.out fN.out TD.out HO.out.1 Wq.out (by have:=kN.out;simp only;omega) (by
               have:=HO.out.2.1;unfold wsE at this;rw[this];unfold vG
               rw[aJ hd0,cZ]))
              go_wp2_with fail
              exact⟨⟨k+1,_,_,by go_num,rfl,by omega,zr⟩,by simp[intOf];omega⟩
  ·obtain rfl:k=n:=by omega
   have S5:=ae (HV.out.rel (some []) (by rw[jF (by rw[HN.out];exact aq _)];exact nK.nil _));go_wp2_with fail
   go_ret2
   exact⟨kK.out,.inr ⟨_,v,es,S5.out,rfl,HV.out.o,by simp⟩⟩
end jw
end Go.Proofs.YthpdlidbaojlbaaGreatDoor
