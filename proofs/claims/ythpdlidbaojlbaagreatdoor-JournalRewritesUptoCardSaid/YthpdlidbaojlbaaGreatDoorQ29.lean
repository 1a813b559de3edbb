/- The document's dictionary: a step. -/
import Derived.Test.YthpdlidbaojlbaaGreatDoorQ28
set_option linter.unusedVariables false
set_option linter.unusedSimpArgs false
set_option maxHeartbeats 4000000
open Go.ChangeShapes Go.WideShapes Go.RowKit
namespace Go.Proofs.YthpdlidbaojlbaaGreatDoor
namespace jw
open ks (af ae hlt ah bC alloc_old aG aX aT dp)
theorem Gs:(Tryz.prog.info? 36).map (·.size)=some 5:=by kernel_rfl
def qB (p:cG):Prop:=(p.kind≠1∧p.text.size≠0)∨(p.kind≠2∧p.kind≠4∧0<p.items.length)
def qA (p:cG):Prop:=(p.kind≠3∧0<p.bL.length)∨(p.kind≠5∧0<p.bI.length)
theorem KU (p:cG):ti p↔(1≤p.kind∧p.kind≤5)∧¬qB p∧¬qA p:=by
 have e1:p.items=[]↔p.items.length=0:=bU.symm;have e2:p.bL=[]↔p.bL.length=0:=bU.symm;have e3:p.bI=[]↔p.bI.length=0:=bU.symm;constructor
 ·intro h;have h1:=h.ht;have h2:=h.hi;have h3:=h.hp;have h4:=h.hr;rw[e1] at h2;rw[e2] at h3;rw[e3] at h4;refine⟨h.hk,?_,?_⟩
  ·unfold qB;omega
  ·unfold qA;omega
 ·rintro⟨h0,h1,h2⟩;unfold qB at h1;unfold qA at h2;exact⟨h0,by omega,by rw[e1];omega,by rw[e2];omega,by rw[e3];omega⟩
theorem zZ {s:ByteArray} (h:s.size=0):s=ByteArray.empty:=by
 cases s with
 | mk d=>have:d=#[]:=mK h;rw[this];rfl
set_option maxRecDepth 8000 in
theorem LZ (p:cG) (iv pv rv:Value) (w:World) (hsm:jz p) (hfl:∀ x∈p.bI,x.2<18446744073709551616) (hi:eh b9 1 w iv p.items) (hp:eh gJ 2 w pv p.bL) (hr:eh dN 2 w rv p.bI):
  Calls Tryz.prog 25 #[.agg #[.int .i64 p.kind,.string p.text,iv,pv,rv]] w fun r w'=>(∃ e:Int,r=.returned (.int .i64 e)∧(e=0↔OkP p))∧af [] w w':=by
 obtain⟨W,hW⟩:∃ W,W=w.alloc (.cells #[.int .i64 p.kind,.string p.text,iv,pv,rv] 36):=⟨_,rfl⟩;have hkW:af [] w W:=by rw[hW];exact(af.refl _ w).alloc _
 have hb:W.heap[w.heap.size]?=some (.cells #[.int .i64 p.kind,.string p.text,iv,pv,rv] 36 (0,0)):=by rw[hW];exact aG w _
 have Cf:=ae (fun(X:World) (hk:af [] W X)=>Ku p iv pv rv X ⟨hsm.lO,hsm.mO,hsm.mN⟩ ((hi.aN hkW).aN hk) ((hp.aN hkW).aN hk) ((hr.aN hkW).aN hk));obtain⟨ia,nY,rfl,_,_,_,hia⟩:=hi.texts;obtain⟨pa,pj,rfl,_,_,_,hpa⟩:=hp.bL;obtain⟨ra,qU,rfl,_,_,_,hra⟩:=hr.lN;obtain⟨ni,hni⟩:∃ ni,p.items.length=ni:=⟨_,rfl⟩;obtain⟨np,hnp⟩:∃ np,p.bL.length=np:=⟨_,rfl⟩;obtain⟨nr,hnr⟩:∃ nr,p.bI.length=nr:=⟨_,rfl⟩;obtain⟨kd,hkd⟩:∃ kd,p.kind=kd:=⟨_,rfl⟩;obtain⟨tx,htx⟩:∃ tx,p.text=tx:=⟨_,rfl⟩;have pW:=ae hsm.Kn;have HKI:=ae (KU p);have PS:=ae hsm.long
 have ZC:=ae (show(kL p).length≤8388608∧(zk p).length≤8388608 by
  have h1:=hsm.lO;have h2:=hsm.mO;have h3:=hsm.mN;have h4:(if p.kind=4 then p.items else []).length≤p.items.length:=by split<;>simp
  unfold kL zk;simp only[aM,aU,List.length_cons,Ar]
  omega)
 have f1:qB p↔(kd≠1∧tx.size≠0)∨(kd≠2∧kd≠4∧0<ni):=by unfold qB;rw[hkd,htx,hni]
 have f2:qA p↔(kd≠3∧0<np)∨(kd≠5∧0<nr):=by unfold qA;rw[hkd,hnp,hnr]
 have zv:=ae f1;have Ci:=ae f2;rw[hni,hnp,hnr,hkd,htx] at hb hW Cf;rw[hni,hnp,hnr,hkd,htx];rw[hnr] at hra;have IG:ni≤1048576:=by rw[←hni];exact hsm.lO
 have IF:np≤1048576:=by rw[←hnp];exact hsm.mO
 have IE:nr≤1048576:=by rw[←hnr];exact hsm.mN
 have MS:=ae hra;have zS:=ae hnr;have qg:=ae hkd;have qO:=ae hfl;have kK:=ae hkW;have HB:=ae hb
 have hc:∀ X,af [] W X→X.cell? ⟨w.heap.size,0,none⟩=some (.int .i64 kd)∧X.cell? ⟨w.heap.size,1,none⟩=some (.string tx)∧X.cell? ⟨w.heap.size,2,none⟩=some (.slice ia ni nY)∧X.cell? ⟨w.heap.size,3,none⟩=some (.slice pa np pj)∧X.cell? ⟨w.heap.size,4,none⟩=some (.slice ra nr qU):=fun X hk=>by have h2:=hk.get hb (by simp);exact⟨by rw[ah h2];rfl,by rw[ah h2];rfl,by rw[ah h2];rfl,by rw[ah h2];rfl,by rw[ah h2];rfl⟩
 have HC:=ae hc;obtain⟨c0,c1,c2,c3,c4⟩:=hc W (af.refl _ _);clear hi hp hr hia hpa hra hni hnp hnr hkd htx hkW hb hsm hfl hc f1 f2;go_enter Tryz.func25,Tryz.ntmps25
 go_upto_region 1 with(fail)
 rw[←hW];clear hW
 by_cases Wh:1≤kd∧kd≤5
 case neg=>
  have HE:=ae (show ¬OkP p from fun h=>Wh (by have:=h.kind.hk;rw[qg.out] at this;exact this))
  by_cases h1:kd<1
  ·have g1:decide (kd<1)=true:=by simp[h1]
   go_wp2_with fail
   go_ret;exact⟨⟨3,rfl,by simp;exact HE.out⟩,kK.out⟩
  ·have h2:5<kd:=by omega
   have g1:decide (kd<1)=false:=by simp;omega
   have g2:decide (5<kd)=true:=by simp[h2]
   go_wp2_with fail
   go_ret;exact⟨⟨3,rfl,by simp;exact HE.out⟩,kK.out⟩
 case pos=>
  have g1:decide (kd<1)=false:=by simp;omega
  have g2:decide (5<kd)=false:=by simp;omega
  obtain⟨b1,hb1⟩:∃ b:Bool,b=true↔qB p:=by classical exact⟨decide _,cz⟩
  obtain⟨b2,hb2⟩:∃ b:Bool,b=true↔qA p:=by classical exact⟨decide _,cz⟩
  have HB1:=ae (hb1.trans zv.out);have HB2:=ae (hb2.trans Ci.out)
  have rP:=ae (show ti p↔b1=false∧b2=false by
   rw[HKI.out,qg.out,←hb1,←hb2]
   simp[Wh])
  clear hb1 hb2
  go_upto_region 3 with(fail)
  go_cut [38] (fun t wx=>t=.bool b1∧wx=W)
  case first=>as_aux_lemma=>
   obtain⟨h3,h4⟩:=Wh;have hes:ByteArray.empty.size=0:=rfl
   by_cases ht:tx.size=0
   ·obtain rfl:=zZ ht
    rcases(by omega:kd=1∨kd=2∨kd=3∨kd=4∨kd=5) with rfl|rfl|rfl|rfl|rfl
    all_goals
     by_cases hn:ni=0
     ·subst hn;go_wp2_with fail
      go_meet;refine⟨congrArg Value.bool ?_,rfl⟩
      first|exact(HB1.out.2 (by omega)).symm|exact(fi.2 (fun h=>by have:=HB1.out.1 h;omega)).symm
     ·have hn2:(0:Int)<(ni:Int):=by omega
      have Ll:decide (0<ni)=true:=by simp;omega
      go_wp2_with fail
      go_meet;refine⟨congrArg Value.bool ?_,rfl⟩
      first|exact(HB1.out.2 (by omega)).symm|exact(fi.2 (fun h=>by have:=HB1.out.1 h;omega)).symm
   ·have hne:tx≠ByteArray.empty:=fun h=>ht (by rw[h];rfl)
    have hl:tx.toList.isEmpty=false:=by
     have h0:(ByteArray.empty).toList=[]:=by rw[dW];rfl
     have h1:(tx.toList == (ByteArray.empty).toList)=false:=ks.iB hne
     cases h:tx.toList with
     | nil=>rw[h,h0] at h1;simp at h1
     | cons a b=>rfl
    rcases(by omega:kd=1∨kd=2∨kd=3∨kd=4∨kd=5) with rfl|rfl|rfl|rfl|rfl
    all_goals
     by_cases hn:ni=0
     ·subst hn;go_wp2_with fail
      go_meet;refine⟨congrArg Value.bool ?_,rfl⟩
      first|exact(HB1.out.2 (by omega)).symm|exact(fi.2 (fun h=>by have:=HB1.out.1 h;omega)).symm
     ·have hn2:(0:Int)<(ni:Int):=by omega
      have Ll:decide (0<ni)=true:=by simp;omega
      go_wp2_with fail
      go_meet;refine⟨congrArg Value.bool ?_,rfl⟩
      first|exact(HB1.out.2 (by omega)).symm|exact(fi.2 (fun h=>by have:=HB1.out.1 h;omega)).symm
  case rest=>
   obtain⟨rfl,rfl⟩:=hcut
   rcases b1 with _|_
   case true=>
    have HE:=ae (show ¬OkP p from fun h=>by have:=rP.out.1 h.kind;simp at this);go_wp2_with fail
    go_ret;exact⟨⟨3,rfl,by simp;exact HE.out⟩,kK.out⟩
   case false=>
    go_upto_region 5 with(fail)
    go_cut [58] (fun t wx=>t=.bool b2∧wx=wc)
    case first=>as_aux_lemma=>
     obtain⟨h3,h4⟩:=Wh
     rcases(by omega:kd=1∨kd=2∨kd=3∨kd=4∨kd=5) with rfl|rfl|rfl|rfl|rfl
     all_goals
      by_cases hn:np=0
      ·subst hn
       by_cases hr:nr=0
       ·subst hr;go_wp2_with fail
        go_meet;refine⟨congrArg Value.bool ?_,rfl⟩
        first|exact(HB2.out.2 (by omega)).symm|exact(fi.2 (fun h=>by have:=HB2.out.1 h;omega)).symm
       ·have hr2:(0:Int)<(nr:Int):=by omega
        have hr3:decide (0<nr)=true:=by simp;omega
        go_wp2_with fail
        go_meet;refine⟨congrArg Value.bool ?_,rfl⟩
        first|exact(HB2.out.2 (by omega)).symm|exact(fi.2 (fun h=>by have:=HB2.out.1 h;omega)).symm
      ·have hn2:(0:Int)<(np:Int):=by omega
       have Ll:decide (0<np)=true:=by simp;omega
       by_cases hr:nr=0
       ·subst hr;go_wp2_with fail
        go_meet;refine⟨congrArg Value.bool ?_,rfl⟩
        first|exact(HB2.out.2 (by omega)).symm|exact(fi.2 (fun h=>by have:=HB2.out.1 h;omega)).symm
       ·have hr2:(0:Int)<(nr:Int):=by omega
        have hr3:decide (0<nr)=true:=by simp;omega
        go_wp2_with fail
        go_meet;refine⟨congrArg Value.bool ?_,rfl⟩
        first|exact(HB2.out.2 (by omega)).symm|exact(fi.2 (fun h=>by have:=HB2.out.1 h;omega)).symm
    case rest=>
     obtain⟨rfl,rfl⟩:=hcut
     rcases b2 with _|_
     case true=>
      have HE:=ae (show ¬OkP p from fun h=>by have:=rP.out.1 h.kind;simp at this);go_wp2_with fail
      go_ret;exact⟨⟨3,rfl,by simp;exact HE.out⟩,kK.out⟩
     case false=>
      have FH:=ae (rP.out.2 ⟨rfl,rfl⟩);clear HB1 HB2 rP zv Ci HKI;go_wp2_with (refine kV rfl 36 _ rfl w.heap.size rfl _ _ (0,0) _ HB.out Tryz.underlying36 rfl Gs ?_)
      refine(Cf.out _ (af.refl _ _)).mono ?_;rintro r w2 ⟨lv,av,rfl,ho1,ho2,k2⟩;have Zk:=ae (Jx lv (kL p) w2 (ho1.row dR.n) ZC.out.1);have hor:=ho2.row dR.n;obtain⟨aa,acy,rfl,_,_,_,hac⟩:=hor.texts;obtain⟨na,hna⟩:∃ na,(zk p).length=na:=⟨_,rfl⟩;rw[hna] at hac ⊢;have HAC:=ae hac;have HNA:=ae hna;have K2:=ae k2;obtain⟨c20,_,Vi,c23,c24⟩:=HC.out w2 k2;clear ho1 ho2 k2 hor hac hna;go_wp2_with fail
      refine Zk.out.mono ?_;rintro r w3 ⟨⟨tb,rfl,htb⟩,k3⟩;have qf:=ae htb;have K3:=ae (K2.out.trans k3);have K23:=ae k3;clear htb c20 Vi c23 c24 k3 c0 c1 c2 c3 c4
      rcases tb with _|_
      case true=>
       have HE:=ae (show ¬OkP p from fun h=>qf.out.1 rfl h.once);go_wp2_with fail
       go_ret;exact⟨⟨3,rfl,by simp;exact HE.out⟩,kK.out.trans K3.out⟩
      case false=>
       have O4:=ae (show(kL p).Nodup by
        have:=qf.out
        simpa using this)
       go_wp2_with fail
       go_loopw [5] (fun i X=>∃ k:Nat,i=.int .i64 (k:Int)∧k≤nr∧Hid ((∀ x∈p.bI.take k,x.2 % 9223372036854775808≤fl.cD)∧af [] w2 X)) (fun i _=>nr-(intOf i).toNat)
       case atStart=>exact⟨0,rfl,bz _,ae ⟨by simp,K23.out⟩⟩
       case round=>
        obtain⟨k,rfl,hk,HV⟩:=hrel;have d4:=(HC.out wr (K2.out.trans HV.out.2)).2.2.2.2
        by_cases hlt2:k<nr
        ·obtain⟨x,hx⟩:∃ x,p.bI[k]?=some x:=⟨_,ag (by rw[zS.out];exact hlt2)⟩;obtain⟨g,off,rfl,hcc⟩:=MS.out (by omega);have hkn:(k:Int)<(nr:Int):=by omega
         have pq:IntKind.i64.wrap (k:Int)=(k:Int):=by rw[cH];omega
         have d1:=ak ((kK.out.trans K2.out).trans HV.out.2) (hcc k x hx).2;have hxm:=aB hx;obtain⟨nb,hnb⟩:∃ nb:Bool,nb=decide (fl.cD<x.2 % 9223372036854775808):=⟨_,rfl⟩;have X4:=Kt x.2 (qO.out x hxm);rw[←hnb] at X4;have HX:=ae hx;have HXM:=ae hxm;have sh:=ae hnb;clear hx hcc hxm hnb
         rcases nb with _|_
         ·go_wp2_with fail
          go_quiet (fail)
          go_wp2_with fail
          go_roundw
          case rel=>exact⟨k+1,by go_num,by omega,ae ⟨fun y hy=>by
           rw[c8,HX.out] at hy
           rcases bj.1 hy with hy|hy
           ·exact HV.out.1 y hy
           ·simp at hy;subst hy;have:=sh.out
            simp at this;omega,HV.out.2.drewN _⟩⟩
          case measure=>simp[intOf];omega
         ·have HE:=ae (show ¬OkP p from fun h=>by
           have h1:=h.num x HXM.out;have h2:=sh.out
           simp at h2;omega)
          go_wp2_with fail
          go_quiet (fail)
          go_wp2_with fail
          go_ret;exact⟨⟨3,rfl,by simp;exact HE.out⟩,((kK.out.trans K2.out).trans HV.out.2).drewN _⟩
        ·obtain rfl:k=nr:=by omega
         have Ta:=ae (show ∀ x∈p.bI,x.2 % 9223372036854775808≤fl.cD by
          have:=HV.out.1;rw[aE (by rw[zS.out];exact aq _)] at this
          exact this)
         have KV:=ae HV.out.2;clear HV;go_wp2_with fail
         go_loopw [6] (fun i X=>∃ q:Nat,i=.int .i64 (q:Int)∧q≤na∧Hid (af [] w2 X)) (fun i _=>na-(intOf i).toNat)
         case atStart=>exact⟨0,rfl,bz _,KV⟩
         case round=>
          clear d4;obtain⟨q,rfl,hq,HV⟩:=hrel
          by_cases hlt3:q<na
          ·obtain⟨x,hx⟩:∃ x,(zk p)[q]?=some x:=⟨_,ag (by rw[HNA.out];exact hlt3)⟩;obtain⟨g,off,rfl,hcc⟩:=HAC.out (by omega);have XR:(q:Int)<(na:Int):=by omega
           have d1:=ak HV.out (hcc q x hx);have hxl:=PS.out x (aB hx);have hxd:decide ((1048576:Int)<(x.size:Int))=false:=by simp;omega
           have hqb:q≤8388608:=by have:=ZC.out.2;have:=HNA.out;omega
           clear hx hcc hxl;go_wp2_with fail
           go_roundw
           case rel=>exact⟨q+1,by go_num,by omega,HV⟩
           case measure=>simp[intOf];omega
          ·obtain rfl:q=na:=by omega
           obtain⟨_,_,d2,d3,d4⟩:=HC.out wr (K2.out.trans HV.out);have HE:=ae (pW.out.2 ⟨FH.out,O4.out,Ta.out⟩);have hm1:decide ((1048576:Int)<(ni:Int))=false:=by simp;omega
           have hm2:decide ((1048576:Int)<(np:Int))=false:=by simp;omega
           have X7:decide ((1048576:Int)<(k:Int))=false:=by simp;omega
           go_wp2_with fail
           all_goals
            go_ret;exact⟨⟨0,rfl,by simp;exact HE.out⟩,(kK.out.trans K2.out).trans HV.out⟩
open ks (af ae hlt ah bC alloc_old aG aX aT)
theorem mM {P:Program} (w:World) (dT sT ty elem:TypeId) (g o dLen dCap:Nat) (a:Addr) (sLen sCap:Nat) (cur:Array Value) (t:TypeId) (cs:List Value) (k:Nat)
  (hu:P.underlying dT=some (.slice elem)) (hs:(P.info? elem).map (·.size)=some k)
  (hg:w.heap[g]?=some (.cells cur t (0,0))) (hn:cs.length=Nat.min sLen dLen*k)
  (hsrc:∀ j v,cs[j]?=some v→w.cell? (a.add j)=some v) (hfit:o+cs.length≤cur.size) (h1:∀ v∈cs,v.oneCell'=true):
  (Builtin.copy_ #[dT,sT] ty #[.slice (some ⟨g,o,none⟩) dLen dCap,.slice (some a) sLen sCap]).run P w=
   .ok (goInt (Nat.min sLen dLen)) (w.setRow g (cur.toList.take o++cs++cur.toList.drop (o+cs.length)).toArray):=by
 have hl:=run_loadCells_list (P:=P) w a cs hsrc;have hst:=run_storeCells_at P g o t cs 0 cur w hg (by simpa using hfit) h1
 cases hq:P.info? elem with
 | none=>simp[hq] at hs
 | some i=>
  have hi:i.size=k:=by simpa[hq] using hs
  simp[Builtin.copy_,j3 hu,Builtin.lenOf,Builtin.firstCells,sizeOf,typeInfo,hq,hi,←hn,hl,hst]
theorem Ir {α:Type} (L A C X:List α) (k:Nat) (hL:L.take (A.length+C.length)=A++C) (hX:X.length=k) (hk:A.length+k+C.length≤L.length):
  let L1:=L.take (A.length+k)++C++L.drop (A.length+k+C.length)
  let L2:=L1.take A.length++X++L1.drop (A.length+X.length)
  L1.length=L.length∧L2.length=L.length∧L2.take (A.length+k+C.length)=A++X++C:=by
 intro L1 L2
 have hA:L.take A.length=A:=by have:=congrArg (List.take A.length) hL;rw[oX,dB (by omega),List.take_left] at this;exact this
 have l1:L1.length=L.length:=by show(L.take (A.length+k)++C++L.drop (A.length+k+C.length)).length=_;simp;omega
 have t1:L1.take A.length=A:=by
  show(L.take (A.length+k)++C++L.drop (A.length+k+C.length)).take A.length=A
  rw[aD,dh (by simp;omega),oX,dB (by omega),hA]
 have d1:L1.drop (A.length+k)=C++L.drop (A.length+k+C.length):=by
  show(L.take (A.length+k)++C++L.drop (A.length+k+C.length)).drop (A.length+k)=_
  rw[aD,List.drop_append_of_le_length (by simp;omega),jF (by simp;omega),List.nil_append]
 have e2:L2=A++X++(C++L.drop (A.length+k+C.length)):=by
  show L1.take A.length++X++L1.drop (A.length+X.length)=_
  rw[t1,hX,d1]
 refine⟨l1,?_,?_⟩
 ·rw[e2];simp;omega
 ·rw[e2,←aD,dh (by simp;omega),aE (by simp;omega)]
theorem NR {α:Type} (L A C X:List α) (k:Nat) (hL:L.take A.length=A) (hX:X.length=k) (hk:A.length+k+C.length≤L.length):
  let L1:=L.take A.length++X++L.drop (A.length+X.length)
  let L2:=L1.take (A.length+k)++C++L1.drop (A.length+k+C.length)
  L1.length=L.length∧L2.length=L.length∧L2.take (A.length+k+C.length)=A++X++C:=by
 intro L1 L2;have e1:L1=A++X++L.drop (A.length+X.length):=by show L.take A.length++X++L.drop (A.length+X.length)=_;rw[hL]
 have l1:L1.length=L.length:=by rw[e1];simp;omega
 have t1:L1.take (A.length+k)=A++X:=by rw[e1,dh (by simp;omega),aE (by simp;omega)]
 have e2:L2=A++X++C++L1.drop (A.length+k+C.length):=by
  show L1.take (A.length+k)++C++L1.drop (A.length+k+C.length)=_
  rw[t1]
 refine⟨l1,?_,?_⟩
 ·rw[e2];simp;omega
 ·rw[e2,dh (by simp;omega),aE (by simp;omega)]
theorem bF.block {α:Type} {enc:α→List Value} {k:Nat} {ty:TypeId} {B:Nat} {w:World} {g n cap:Nat} {l:List α} (h:bF enc k ty B w (.slice (some ⟨g,0,none⟩) n cap) l):
  ∃ cur:Array Value,w.heap[g]?=some (.cells cur ty (0,0))∧n=l.length∧l.length≤cap∧cap≤maxLen∧cur.size=cap*k∧cur.toList.take (l.length*k)=l.flatMap enc∧B≤g:=by
 rcases h.2 with⟨hv,_⟩|⟨g2,cap2,cur,hv,hb,hg,h1,h2,h3,h4⟩
 ·cases hv
 ·injection hv with e1 e2 e3
  injection e1 with e1
  injection e1 with e1
  subst e1 e2 e3;exact⟨cur,hg,rfl,h1,h2,h3,h4,hb⟩
theorem bF.vo {α:Type} {enc:α→List Value} {k:Nat} {ty:TypeId} {B:Nat} {w:World} {g cap:Nat} {l:List α} (he:∀ x,(enc x).length=k) {cur:Array Value} (hg:w.heap[g]?=some (.cells cur ty (0,0))) (h1:l.length≤cap) (h2:cap≤maxLen) (h3:cur.size=cap*k)
  (h4:cur.toList.take (l.length*k)=l.flatMap enc) (hb:B≤g):bF enc k ty B w (.slice (some ⟨g,0,none⟩) l.length cap) l:=
 ⟨iF he l,.inr ⟨g,cap,cur,rfl,hb,hg,h1,h2,h3,h4⟩⟩
abbrev SL:=Option Addr×Nat×Nat
def slV (x:SL):Value:=.slice x.1 x.2.1 x.2.2
def encS (x:SL):List Value:=[slV x]
def encI (z:Int):List Value:=[.int .i64 z]
theorem Su:Enc encI 1:=⟨fun _=>rfl,fun x u hu=>by simp[encI] at hu;rw[hu];rfl,by decide⟩
structure iz (B:Nat) (w:World) (v kv:Value) (xs:List SL):Prop where
 row:bF encS 1 32 B w v xs
 each:∀ x∈xs,∃ l,(bF b9 1 9 B w (slV x) l∧∀ s∈l,s.size≤1048576)∧∀ b,(slV x).ownBlock=some b→kv.ownBlock≠some b
def mx (xs:List SL):Nat:=(xs.map (fun x=>x.2.1)).sum
theorem uY {xs:List SL} {x:SL} (h:x∈xs):x.2.1≤mx xs:=by
 induction xs with
 | nil=>simp at h
 | cons y xs ih=>
  unfold mx at *;rw[bP,List.sum_cons]
  rcases bM.1 h with rfl|h
  ·omega
  ·have:=ih h;omega
theorem uX:∀ {xs:List SL} {i:Nat} {x:SL} (y:SL),xs[i]?=some x→mx (xs.set i y)+x.2.1=mx xs+y.2.1
 | [],i,x,y,h=>by simp at h
 | z::xs,0,x,y,h=>by simp at h;subst h;unfold mx;rw[List.set_cons_zero,bP,bP,List.sum_cons,List.sum_cons];omega
 | z::xs,i+1,x,y,h=>by simp at h;have:=uX (xs:=xs) y h;unfold mx at *;rw[List.set_cons_succ,bP,bP,List.sum_cons,List.sum_cons];omega
def ON (E:List Nat) (n db:Nat) (ov yv kv vv:Value):Prop:=∀ b∈E,b<n∧b≠db∧ov.ownBlock≠some b∧yv.ownBlock≠some b∧kv.ownBlock≠some b∧vv.ownBlock≠some b
theorem ON.grow {E:List Nat} {n m db:Nat} {ov yv kv vv:Value} (h:ON E n db ov yv kv vv) (hm:n≤m):ON E m db ov yv kv vv:=fun b hb=>⟨aP (h b hb).1 hm,(h b hb).2⟩
structure Sp (B:Nat) (E:List Nat) (w w':World):Prop where
 b:Below B w w'
 e:∀ b∈E,b<w.heap.size→w'.heap[b]?=w.heap[b]?
theorem Sp.refl (B:Nat) (E:List Nat) (w:World):Sp B E w w:=⟨Below.refl _ _,fun _ _ _=>rfl⟩
theorem Sp.trans {B:Nat} {E:List Nat} {a b c:World} (h:Sp B E a b) (k:Sp B E b c):Sp B E a c:=⟨h.b.trans k.b,fun i hi hs=>(k.e i hi (aP hs h.b.size)).trans (h.e i hi hs)⟩
structure Dc (B:Nat) (E:List Nat) (w:World) (db:Nat) (kl:List ByteArray) (seed at_:Nat) (ov yv kv vv:Value) (os ys:List SL) (zs:List Int):Prop where
 hd:w.heap[db]?=some (.cells #[.int .u64 (seed:Int),ov,yv,.int .i64 (at_:Int),kv,vv] 200 (0,0))
 sd:seed<18446744073709551616
 old:iz B w ov kv os
 aW:iz B w yv kv ys
 oy:∀ b,ov.ownBlock=some b→yv.ownBlock≠some b
 keys:bF b9 1 9 B w kv kl
 ph:bF encI 1 3 B w vv zs
 uj:at_≤os.length
 on:os.length≤2097152
 yn:ys.length≤2097152
 kn:kl.length≤1048576
 zn:zs.length=kl.length
 b:B≤db
 off:ON E w.heap.size db ov yv kv vv
def DcE (B:Nat) (E:List Nat) (w:World) (db:Nat) (kl:List ByteArray):Prop:=∃ seed at_ ov yv kv vv os ys zs,Dc B E w db kl seed at_ ov yv kv vv os ys zs∧mx os+mx ys≤kl.length
theorem iz.keeps {B:Nat} {w w':World} {v kv:Value} {xs:List SL} {F:List Nat} (h:iz B w v kv xs) (hk:af F w w') (h1:∀ b,v.ownBlock=some b→b∉F) (h2:∀ x∈xs,∀ b,(slV x).ownBlock=some b→b∉F):iz B w' v kv xs:=
 ⟨h.row.keeps hk h1,fun x hx=>by
  obtain⟨l,a,b⟩:=h.each x hx
  exact⟨l,⟨a.1.keeps hk (h2 x hx),a.2⟩,b⟩⟩
theorem iz.aN {B:Nat} {w w':World} {v kv:Value} {xs:List SL} (h:iz B w v kv xs) (hk:af [] w w'):iz B w' v kv xs:=h.keeps hk (by simp) (by simp)
theorem Dc.aN {B:Nat} {E:List Nat} {w w':World} {db:Nat} {kl:List ByteArray} {seed at_:Nat} {ov yv kv vv:Value} {os ys:List SL} {zs:List Int} (h:Dc B E w db kl seed at_ ov yv kv vv os ys zs) (hk:af [] w w'):Dc B E w' db kl seed at_ ov yv kv vv os ys zs:=⟨hk.get h.hd (by simp),h.sd,h.old.aN hk,h.aW.aN hk,h.oy,h.keys.aN hk,h.ph.aN hk,h.uj,h.on,h.yn,h.kn,h.zn,h.b,h.off.grow hk.size⟩
theorem DcE.aN {B:Nat} {E:List Nat} {w w':World} {db:Nat} {kl:List ByteArray} (h:DcE B E w db kl) (hk:af [] w w'):DcE B E w' db kl:=by obtain⟨seed,at_,ov,yv,kv,vv,os,ys,zs,a,b⟩:=h;exact⟨seed,at_,ov,yv,kv,vv,os,ys,zs,a.aN hk,b⟩
theorem TV (m:Nat) (h:m<4194304):Ending.returned (.int .i64 (wrap64 (m:Int)))=.returned (.int .i64 (m:Int)):=by rw[show wrap64 (m:Int)=(m:Int) by unfold wrap64;omega]
theorem Kb (db n c:Nat) (a:Option Addr) (seed:Nat) (s:ByteArray) (w:World) (hc:w.cell? ⟨db,0,none⟩=some (.int .u64 (seed:Int))) (h1:seed<18446744073709551616) (hs:s.size≤maxLen) (h0:0<n) (hn:n≤2097152):
  Calls Tryz.prog 120 #[dp db,.slice a n c,.string s] w fun e w'=>(∃ i:Nat,i<n∧e=.returned (.int .i64 (i:Int)))∧w=w':=by
 have H:=ae (Ob seed s w h1 hs);unfold dp;have hn0:¬((n:Int)=0):=by omega
 have hw:IntKind.u64.wrap (n:Int)=(n:Int):=by rw[gY];omega
 clear h1;go_enter Tryz.func120,Tryz.ntmps120
 go_wp2_with (go_at_call 166;refine H.out.mono ?_;rintro e w2 ⟨⟨z,hz,rfl⟩,rfl⟩)
 go_ret;refine⟨⟨z % n,dq _ h0,?_⟩,rfl⟩;have hm:=dq z h0;exact TV (z % n) (by omega)
theorem Fz (B:Nat) (s:ByteArray) (x:SL) (l:List ByteArray) (w:World) (h:bF b9 1 9 B w (slV x) l) (hB:B≤w.heap.size) (hn:l.length≤1048576):
  Calls Tryz.prog 121 #[.string s,slV x] w fun e w'=>∃ y:SL,e=.returned (slV y)∧bF b9 1 9 B w' (slV y) (s::l)∧(∀ b,(slV y).ownBlock=some b→w.heap.size≤b)∧af [] w w':=by
 obtain⟨i9,hi9,iV,iA,im⟩:=cF qc;have hown:=qS w [s] w.heap.size (aq _) (by simp[maxLen]);have hk1:=(af.refl [] w).alloc (.cells (([s]:List ByteArray).map Value.string).toArray 9);have hrow:=(h.aN hk1).row dR.n;have HO:=ae hown;have HR:=ae hrow;have HK:=ae hk1;obtain⟨xa,xn,xc⟩:=x;unfold slV at *;clear h hown hrow hk1;go_enter Tryz.func121,Tryz.ntmps121
 go_wp2_with (at_builtin;refine iP rfl _ _ 32 rfl b9 1 9 w.heap.size i9 (.string ByteArray.empty) 16 Tryz.underlying32 hi9 iV iA im rfl dR (.slice (some ⟨w.heap.size,0,none⟩) 1 1) [s] l _ rfl HO.out rfl HR.out (by simp[maxLen];omega) (by simp;omega) (by simp) ?_;intro v' w2 hp;have HP:=ae hp;clear hp)
 obtain⟨ya,yc,rfl,_⟩:=HP.out.own.form;go_ret;refine⟨ya,([s]++l).length,yc,rfl,HP.out.own.mono hB,fun b hb=>(HP.out.own.lt b hb).1,HK.out.step HP.out.bY (fun b hb=>.inr ?_)⟩;simp[Value.ownBlock] at hb;omega
theorem La (db:Nat) (kv:Value) (kl:List ByteArray) (s:ByteArray) (w:World) (hc:w.cell? ⟨db,4,none⟩=some kv) (h:eh b9 1 w kv kl) (hn:kl.length≤1048576) (hs:s∉kl):
  Calls Tryz.prog 119 #[dp db,.string s] w fun e w'=>e=.returned (.int .i64 (-1))∧w=w':=by
 obtain⟨a,cap,rfl,_,_,_,hr⟩:=h.texts;obtain⟨n,hkn⟩:∃ n,kl.length=n:=⟨_,rfl⟩;rw[hkn] at hc hn hr;have HR:=ae hr;have HS:=ae hs;have HN:=ae hkn;unfold dp;clear h hr hs hkn;go_enter Tryz.func119,Tryz.ntmps119
 go_wp2_with fail
 go_loop [12,5,6] (fun i _ _=>∃ k:Nat,k≤n∧i=.int .i64 (k:Int)) (fun i _ _=>n-(intOf i).toNat)
 case atStart=>exact⟨0,bz _,rfl⟩
 case round=>
  obtain⟨k,hk,rfl⟩:=hrel
  by_cases hlt2:k<n
  ·obtain⟨x,hx⟩:∃ x,kl[k]?=some x:=⟨_,ag (by rw[HN.out];exact hlt2)⟩;obtain⟨g,off,rfl,hcc⟩:=HR.out (by omega);have hcx:=hcc k x hx;have hne:(x.toList == s.toList)=false:=ks.iB (fun e=>HS.out (e ▸ aB hx));have hkn:(k:Int)<(n:Int):=by omega
   clear hcc hx;go_wp2_with fail
   exact⟨⟨k+1,by omega,by go_num⟩,by simp[intOf];omega⟩
  ·obtain rfl:k=n:=by omega
   go_wp2_with fail
   go_ret;exact⟨rfl,rfl⟩
theorem LD (l:List SL):l.flatMap encS=l.map slV:=by
 induction l with
 | nil=>rfl
 | cons x l ih=>rw[di,ih];rfl
theorem NB {B:Nat} {ty:TypeId} {w:World} {g n cap:Nat} {xs:List SL} (h:bF encS 1 ty B w (.slice (some ⟨g,0,none⟩) n cap) xs) (i:Nat) (y:SL):
  bF encS 1 ty B (w.setCell ⟨g,i,none⟩ (slV y)) (.slice (some ⟨g,0,none⟩) n cap) (xs.set i y):=by
 obtain⟨a,c,e1,_⟩:=h.form
 injection e1 with e1 e2 e3
 subst e2;have h1:w.ownsRow B ty 1 (.slice (some ⟨g,0,none⟩) xs.length cap) xs.length (xs.flatMap encS):=h;have h2:=(h1.stored i (slV y)).1;rw[LD,←List.map_set] at h2;unfold bF;rw[LD,dO];exact h2
theorem iz.put {B:Nat} {w:World} {g n cap:Nat} {kv:Value} {xs:List SL} (h:iz B w (.slice (some ⟨g,0,none⟩) n cap) kv xs) (i:Nat) (y:SL) (hy:∃ l,bF b9 1 9 B w (slV y) l∧∀ s∈l,s.size≤1048576) (hk:∀ b,(slV y).ownBlock=some b→kv.ownBlock≠some b):
  iz B (w.setCell ⟨g,i,none⟩ (slV y)) (.slice (some ⟨g,0,none⟩) n cap) kv (xs.set i y):=by
 obtain⟨cur,hg,_⟩:=h.row.block;have hkp:af [g] w (w.setCell ⟨g,i,none⟩ (slV y)):=(af.refl _ w).setCell (p:=⟨g,i,none⟩) (.inl (by simp)) _
 have key:∀ x,(∃ l,bF b9 1 9 B w (slV x) l∧∀ s∈l,s.size≤1048576)→∃ l,bF b9 1 9 B (w.setCell ⟨g,i,none⟩ (slV y)) (slV x) l∧∀ s∈l,s.size≤1048576:=fun x ⟨l,hl,hs⟩=>⟨l,hl.keeps hkp (fun b hb hm=>by simp at hm;subst hm;exact hl.bw hg (by decide) hb),hs⟩
 refine⟨NB h.row i y,fun x hx=>?_⟩
 rcases pw hx with hx|rfl
 ·obtain⟨l,a,b⟩:=h.each x hx;obtain⟨l2,a2⟩:=key x ⟨l,a⟩;exact⟨l2,a2,b⟩
 ·obtain⟨l2,a2⟩:=key x hy;exact⟨l2,a2,hk⟩
theorem iz.other {B:Nat} {w w':World} {v kv:Value} {xs:List SL} {g:Nat} {cur:Array Value} {t:TypeId} (h:iz B w v kv xs) (hg:w.heap[g]?=some (.cells cur t (0,0))) (ht:9≠t) (hv:v.ownBlock≠some g) (hk:af [g] w w'):iz B w' v kv xs:=
 h.keeps hk (fun b hb hm=>by simp at hm;subst hm;exact hv hb) (fun x hx b hb hm=>by
  simp at hm;subst hm;obtain⟨l,a,_⟩:=h.each x hx
  exact a.1.bw hg ht hb)
namespace Dc
variable {B:Nat} {E:List Nat} {w W:World} {db:Nat} {kl:List ByteArray} {seed at_:Nat} {ov yv kv vv:Value} {os ys:List SL} {zs:List Int}
theorem low (h:Dc B E w db kl seed at_ ov yv kv vv os ys zs):B≤w.heap.size:=aF h.b (bW (hlt h.hd))
theorem rows (h:Dc B E w db kl seed at_ ov yv kv vv os ys zs) (hk:af [db] w W):iz B W ov kv os∧iz B W yv kv ys∧bF b9 1 9 B W kv kl∧bF encI 1 3 B W vv zs:=
 ⟨h.old.other h.hd (by decide) (h.old.row.bw h.hd (by decide)) hk,h.aW.other h.hd (by decide) (h.aW.row.bw h.hd (by decide)) hk,
  h.keys.keeps hk (fun b hb hm=>by simp at hm;subst hm;exact h.keys.bw h.hd (by decide) hb),h.ph.keeps hk (fun b hb hm=>by simp at hm;subst hm;exact h.ph.bw h.hd (by decide) hb)⟩
theorem setAt (h:Dc B E w db kl seed at_ ov yv kv vv os ys zs) (a:Nat) (ha:a≤os.length):Dc B E (w.setCell ⟨db,3,none⟩ (.int .i64 (a:Int))) db kl seed a ov yv kv vv os ys zs∧af [db] w (w.setCell ⟨db,3,none⟩ (.int .i64 (a:Int))):=by have hk:af [db] w (w.setCell ⟨db,3,none⟩ (.int .i64 (a:Int))):=(af.refl _ w).setCell (p:=⟨db,3,none⟩) (.inl (by simp)) _;obtain⟨r1,r2,r3,r4⟩:=h.rows hk;exact⟨⟨by rw[aX h.hd 3 _];rfl,h.sd,r1,r2,h.oy,r3,r4,ha,h.on,h.yn,h.kn,h.zn,h.b,h.off.grow hk.size⟩,hk⟩
theorem sp {F:List Nat} (h:Dc B E w db kl seed at_ ov yv kv vv os ys zs) (hk:af F w W) (hF:∀ b∈F,B≤b∧b∉E):Sp B E w W:=⟨hk.ep h.low (fun b hb=>(hF b hb).1),fun b hb hs=>hk.block b hs (fun hf=>(hF b hf).2 hb)⟩
theorem sp0 (h:Dc B E w db kl seed at_ ov yv kv vv os ys zs) (hk:af [] w W):Sp B E w W:=h.sp hk (by simp)
theorem qF (h:Dc B E w db kl seed at_ ov yv kv vv os ys zs) (hk:af [db] w W):Sp B E w W:=h.sp hk (fun b hb=>by simp at hb;subst hb;exact⟨h.b,fun he=>(h.off b he).2.1 rfl⟩)
theorem WA {g n cap:Nat} (h:Dc B E w db kl seed at_ ov (.slice (some ⟨g,0,none⟩) n cap) kv vv os ys zs) (i:Nat) (y:SL) (hy:∃ l,bF b9 1 9 B w (slV y) l∧∀ s∈l,s.size≤1048576) (hk:∀ b,(slV y).ownBlock=some b→kv.ownBlock≠some b):
  Dc B E (w.setCell ⟨g,i,none⟩ (slV y)) db kl seed at_ ov (.slice (some ⟨g,0,none⟩) n cap) kv vv os (ys.set i y) zs∧Sp B E w (w.setCell ⟨g,i,none⟩ (slV y)):=by
 obtain⟨cur,hg,_,_,_,_,_,hB⟩:=h.aW.row.block;have hkp:af [g] w (w.setCell ⟨g,i,none⟩ (slV y)):=(af.refl _ w).setCell (p:=⟨g,i,none⟩) (.inl (by simp)) _
 have hne:db≠g:=fun e=>by have h1:=h.hd;rw[e,hg] at h1;simp at h1
 refine⟨⟨hkp.get h.hd (by simp[hne]),h.sd,h.old.other hg (by decide) (fun e=>h.oy g e rfl) hkp,h.aW.put i y hy hk,h.oy,h.keys.keeps hkp (fun b hb hm=>by simp at hm;subst hm;exact h.keys.bw hg (by decide) hb),h.ph.keeps hkp (fun b hb hm=>by simp at hm;subst hm;exact h.ph.bw hg (by decide) hb),h.uj,h.on,by rw[dO];exact h.yn,h.kn,h.zn,h.b,h.off.grow hkp.size⟩,h.sp hkp (fun b hb=>by simp at hb;subst hb;exact⟨hB,fun he=>(h.off b he).2.2.2.1 rfl⟩)⟩
theorem T2 {g n cap:Nat} (h:Dc B E w db kl seed at_ (.slice (some ⟨g,0,none⟩) n cap) yv kv vv os ys zs) (i:Nat) (y:SL) (hy:∃ l,bF b9 1 9 B w (slV y) l∧∀ s∈l,s.size≤1048576) (hk:∀ b,(slV y).ownBlock=some b→kv.ownBlock≠some b):
  Dc B E (w.setCell ⟨g,i,none⟩ (slV y)) db kl seed at_ (.slice (some ⟨g,0,none⟩) n cap) yv kv vv (os.set i y) ys zs∧Sp B E w (w.setCell ⟨g,i,none⟩ (slV y)):=by
 obtain⟨cur,hg,_,_,_,_,_,hB⟩:=h.old.row.block;have hkp:af [g] w (w.setCell ⟨g,i,none⟩ (slV y)):=(af.refl _ w).setCell (p:=⟨g,i,none⟩) (.inl (by simp)) _
 have hne:db≠g:=fun e=>by have h1:=h.hd;rw[e,hg] at h1;simp at h1
 refine⟨⟨hkp.get h.hd (by simp[hne]),h.sd,h.old.put i y hy hk,h.aW.other hg (by decide) (fun e=>h.oy g rfl e) hkp,h.oy,h.keys.keeps hkp (fun b hb hm=>by simp at hm;subst hm;exact h.keys.bw hg (by decide) hb),h.ph.keeps hkp (fun b hb hm=>by simp at hm;subst hm;exact h.ph.bw hg (by decide) hb),by rw[dO];exact h.uj,by rw[dO];exact h.on,h.yn,h.kn,h.zn,h.b,h.off.grow hkp.size⟩,h.sp hkp (fun b hb=>by simp at hb;subst hb;exact⟨hB,fun he=>(h.off b he).2.2.1 rfl⟩)⟩
theorem swap (h:Dc B E w db kl seed at_ ov yv kv vv os ys zs) (hW:W.heap[db]?=some (.cells #[.int .u64 (seed:Int),yv,.slice none 0 0,.int .i64 (0:Int),kv,vv] 200 (0,0))) (hk:af [db] w W):
  Dc B E W db kl seed 0 yv (.slice none 0 0) kv vv ys [] zs:=by
 obtain⟨r1,r2,r3,r4⟩:=h.rows hk
 exact⟨hW,h.sd,r2,⟨bF.nil _ _ _ _ _,by simp⟩,fun b _ e=>by simp[Value.ownBlock] at e,r3,r4,bz _,h.yn,by simp,h.kn,h.zn,h.b,fun b hb=>by
  obtain⟨q1,q2,q3,q4,q5⟩:=h.off b hb
  exact⟨aP q1 hk.size,q2,q4,by simp[Value.ownBlock],q5⟩⟩
theorem aaG {g n cap:Nat} (h:Dc B E w db kl seed at_ ov (.slice (some ⟨g,0,none⟩) n cap) kv vv os ys zs):db≠g:=by obtain⟨cur,hg,_⟩:=h.aW.row.block;intro e;have h1:=h.hd;rw[e,hg] at h1;simp at h1
theorem Vb {g n cap:Nat} (h:Dc B E w db kl seed at_ (.slice (some ⟨g,0,none⟩) n cap) yv kv vv os ys zs):db≠g:=by obtain⟨cur,hg,_⟩:=h.old.row.block;intro e;have h1:=h.hd;rw[e,hg] at h1;simp at h1
theorem c0 (h:Dc B E w db kl seed at_ ov yv kv vv os ys zs):w.cell? ⟨db,0,none⟩=some (.int .u64 (seed:Int)):=by rw[ah h.hd];rfl
theorem c1 (h:Dc B E w db kl seed at_ ov yv kv vv os ys zs):w.cell? ⟨db,1,none⟩=some ov:=by rw[ah h.hd];rfl
theorem c2 (h:Dc B E w db kl seed at_ ov yv kv vv os ys zs):w.cell? ⟨db,2,none⟩=some yv:=by rw[ah h.hd];rfl
theorem c3 (h:Dc B E w db kl seed at_ ov yv kv vv os ys zs):w.cell? ⟨db,3,none⟩=some (.int .i64 (at_:Int)):=by rw[ah h.hd];rfl
theorem c4 (h:Dc B E w db kl seed at_ ov yv kv vv os ys zs):w.cell? ⟨db,4,none⟩=some kv:=by rw[ah h.hd];rfl
theorem c5 (h:Dc B E w db kl seed at_ ov yv kv vv os ys zs):w.cell? ⟨db,5,none⟩=some vv:=by rw[ah h.hd];rfl
theorem fr (h:Dc B E w db kl seed at_ ov yv kv vv os ys zs) (j:Nat):w.frozen? ⟨db,j,none⟩=false:=bC h.hd j
end Dc
theorem kP {B:Nat} {w:World} {g n cap:Nat} {kv:Value} {xs:List SL} (h:iz B w (.slice (some ⟨g,0,none⟩) n cap) kv xs) {i:Nat} {x:SL} (hx:xs[i]?=some x):w.cell? ⟨g,i,none⟩=some (.slice x.1 x.2.1 x.2.2):=by
 have:=bF.cell (enc:=encS) (fun _=>rfl) h.row hx (j:=0) (u:=slV x) rfl
 rwa [bB,Nat.add_zero] at this
theorem q8 {B:Nat} {ty:TypeId} {w:World} {x:SL} {l:List ByteArray} (h:bF b9 1 ty B w (slV x) l):x.2.1=l.length:=by
 obtain⟨a,c,e,_⟩:=h.form;unfold slV at e
 injection e
theorem Dc.Pn {B:Nat} {E:List Nat} {w w5:World} {db:Nat} {kl:List ByteArray} {seed at_:Nat} {ov kv vv:Value} {os ys:List SL} {zs:List Int} {g n cap:Nat} (h:Dc B E w db kl seed at_ ov (.slice (some ⟨g,0,none⟩) n cap) kv vv os ys zs) {i:Nat} {x y:SL} {s:ByteArray} {l:List ByteArray} (hx:ys[i]?=some x)
  (hl:bF b9 1 9 B w (slV x) l) (ho:bF b9 1 9 B w5 (slV y) (s::l)) (hnew:∀ b,(slV y).ownBlock=some b→w.heap.size≤b) (hk:af [] w w5) (hs:∀ z∈s::l,z.size≤1048576):
  Dc B E (w5.setCell ⟨g,i,none⟩ (slV y)) db kl seed at_ ov (.slice (some ⟨g,0,none⟩) n cap) kv vv os (ys.set i y) zs∧mx (ys.set i y)=mx ys+1∧Sp B E w (w5.setCell ⟨g,i,none⟩ (slV y)):=by
 obtain⟨d1,d2⟩:=(h.aN hk).WA i y ⟨_,ho,hs⟩ (fun b hb e=>by have:=hnew b hb;have:=(h.keys.lt b e).2;omega);refine⟨d1,?_,(h.sp0 hk).trans d2⟩;have e1:=uX y hx;have e2:=q8 hl;have e3:=q8 ho;rw[List.length_cons] at e3;omega
theorem Dc.Uh {B:Nat} {E:List Nat} {w w5:World} {db:Nat} {kl:List ByteArray} {seed at_:Nat} {yv kv vv:Value} {os ys:List SL} {zs:List Int} {g n cap:Nat} (h:Dc B E w db kl seed at_ (.slice (some ⟨g,0,none⟩) n cap) yv kv vv os ys zs) {i:Nat} {x y:SL} {s:ByteArray} {l:List ByteArray} (hx:os[i]?=some x)
  (hl:bF b9 1 9 B w (slV x) l) (ho:bF b9 1 9 B w5 (slV y) (s::l)) (hnew:∀ b,(slV y).ownBlock=some b→w.heap.size≤b) (hk:af [] w w5) (hs:∀ z∈s::l,z.size≤1048576):
  Dc B E (w5.setCell ⟨g,i,none⟩ (slV y)) db kl seed at_ (.slice (some ⟨g,0,none⟩) n cap) yv kv vv (os.set i y) ys zs∧mx (os.set i y)=mx os+1∧Sp B E w (w5.setCell ⟨g,i,none⟩ (slV y)):=by
 obtain⟨d1,d2⟩:=(h.aN hk).T2 i y ⟨_,ho,hs⟩ (fun b hb e=>by have:=hnew b hb;have:=(h.keys.lt b e).2;omega);refine⟨d1,?_,(h.sp0 hk).trans d2⟩;have e1:=uX y hx;have e2:=q8 hl;have e3:=q8 ho;rw[List.length_cons] at e3;omega
theorem Dc.cut {B:Nat} {E:List Nat} {w:World} {db:Nat} {kl:List ByteArray} {seed at_:Nat} {yv kv vv:Value} {os ys:List SL} {zs:List Int} {g n cap:Nat} (h:Dc B E w db kl seed at_ (.slice (some ⟨g,0,none⟩) n cap) yv kv vv os ys zs) {i:Nat} {x:SL} (hx:os[i]?=some x):
  Dc B E (w.setCell ⟨g,i,none⟩ (.slice none 0 0)) db kl seed at_ (.slice (some ⟨g,0,none⟩) n cap) yv kv vv (os.set i (none,0,0)) ys zs∧mx (os.set i (none,0,0))+x.2.1=mx os∧Sp B E w (w.setCell ⟨g,i,none⟩ (.slice none 0 0)):=by
 obtain⟨d1,d2⟩:=h.T2 i (none,0,0) ⟨[],bF.nil _ _ _ _ _,by simp⟩ (fun b hb=>by simp[slV,Value.ownBlock] at hb);exact⟨d1,uX (none,0,0) hx,d2⟩
end jw
end Go.Proofs.YthpdlidbaojlbaaGreatDoor
