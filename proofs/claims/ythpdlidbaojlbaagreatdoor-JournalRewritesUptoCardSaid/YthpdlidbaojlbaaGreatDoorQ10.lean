/- A deque in memory: chunks of at most 32 texts; made, grown b -/
import Derived.Test.YthpdlidbaojlbaaGreatDoorQ09
set_option linter.unusedVariables false
set_option linter.unusedSimpArgs false
set_option maxHeartbeats 4000000
open Go.ChangeShapes Go.WideShapes Go.RowKit
namespace Go.Proofs.YthpdlidbaojlbaaGreatDoor
namespace jw
open ks (af ae hlt ah bC alloc_old aG aX aT dp)
theorem eW.spread {α:Type} {enc:α→List Value} {k:Nat} {e:TypeId} {B:Nat} {W w':World} {v:Value} {l:List α} {y:α} {g n cap:Nat} (h:eW enc k e B W w' v l y g n cap):jy enc k e B W w' v (.slice (some ⟨g,0,none⟩) (n+1) cap) l [y]:=⟨h.own,h.bY,fun g' hg=>by simp[Value.ownBlock] at hg;rw[←hg];exact h.at_⟩
theorem Qf {W:World} {ops:Array Oper} {o:Oper} {a:Act} {K:Act→World→Prop} {Q:Exit→Act→World→Prop} {E:Prop} (hgd:o.guard=none) (s x:Operand) (ho:o.op=.call { callee:=.builtin .append,args:=#[s,x],argTypes:=#[32,32] }) (B:Nat) (v:Value) (l ys:List ByteArray) (u:Value)
    (hs:a.eval s=v) (hown:bF b9 1 9 B W v l) (hx:a.eval x=u) (hr:eh b9 1 W u ys) (h1:l.length≤8388608) (h2:ys.length≤8388608) (hB:B≤W.heap.size)
    (h:∀ v' w',jy b9 1 9 B W w' v v' l ys→K (a.put o.dst v') w'):if Region.wanted o (yielded ops a.tmps)=true then Oper.wp Tryz.prog o a W K Q else E:=by
  obtain⟨i9,hi9,iV,iA,im⟩:=cF qc;exact wV hgd s x 32 ho b9 1 9 B i9 (.string ByteArray.empty) 16 Tryz.underlying32 hi9 iV iA im rfl dR v l ys u hs hown hx hr (by unfold maxLen;omega) (by omega) hB h
structure zP (B:Nat) (w:World) (lv av:Value) (ls ms:List ByteArray):Prop where
  l:bF b9 1 9 B w lv ls
  a:bF b9 1 9 B w av ms
  ap:∀ b,lv.ownBlock=some b→av.ownBlock≠some b
namespace zP
variable {B:Nat} {w w':World} {lv av Uj wP:Value} {ls ms ys:List ByteArray}
theorem aN (h:zP B w lv av ls ms) (hk:af [] w w'):zP B w' lv av ls ms:=⟨h.l.aN hk,h.a.aN hk,h.ap⟩
theorem Kx (h:zP B w lv av ls ms) (hp:jy b9 1 9 B w w' lv Uj ls ys):zP B w' Uj av (ls++ys) ms:=
  ⟨hp.own,h.a.keeps hp.bY (fun b hb hm=>h.ap b (by simpa using hm) hb),fun b hb e=>by
    rcases hp.at_ b hb with h1|h1
    · exact h.ap b h1 e
    · have:=(h.a.lt b e).2;omega⟩
theorem Ui (h:zP B w lv av ls ms) (hp:jy b9 1 9 B w w' av wP ms ys):zP B w' lv wP ls (ms++ys):=
  ⟨h.l.keeps hp.bY (fun b hb hm=>h.ap b hb (by simpa using hm)),hp.own,fun b hb e=>by
    rcases hp.at_ b e with h1|h1
    · exact h.ap b hb h1
    · have:=(h.l.lt b hb).2;omega⟩
end zP
structure NmR (p:cG) (W0 X:World) (lv av:Value) (k m:Nat):Prop where
  t:zP W0.heap.size X lv av ((if p.kind=4 then p.items else [])++(p.bL.take k).map (fun x=>x.1)++(p.bI.take m).map (fun x=>x.1)) (p.text::p.items++(p.bL.take k).flatMap (fun x=>[x.1,x.2])++(p.bI.take m).map (fun x=>x.1))
  k:af [] W0 X
theorem Ar (l:List (ByteArray×ByteArray)):(l.flatMap (fun x=>[x.1,x.2])).length=2*l.length:=by
  induction l with
  | nil=>rfl
  | cons x l ih=>rw[di,aM,ih,List.length_cons];simp;omega
theorem NmR.lens {p:cG} {W0 X:World} {lv av:Value} {k m:Nat} (h:NmR p W0 X lv av k m) (hsm:p.items.length≤1048576∧p.bL.length≤1048576∧p.bI.length≤1048576):
    ((if p.kind=4 then p.items else [])++(p.bL.take k).map (fun x=>x.1)++(p.bI.take m).map (fun x=>x.1)).length≤3145728∧(p.text::p.items++(p.bL.take k).flatMap (fun x=>[x.1,x.2])++(p.bI.take m).map (fun x=>x.1)).length≤4194305:=by
  have h1:(if p.kind=4 then p.items else []).length≤p.items.length:=by split<;>simp
  simp only[aM,aU,aR,List.length_cons,Ar];omega
def nmL (p:cG) (k m:Nat):List ByteArray:=(if p.kind=4 then p.items else [])++(p.bL.take k).map (fun x=>x.1)++(p.bI.take m).map (fun x=>x.1)
def nmA (p:cG) (k m:Nat):List ByteArray:=p.text::p.items++(p.bL.take k).flatMap (fun x=>[x.1,x.2])++(p.bI.take m).map (fun x=>x.1)
theorem NmR.two {p:cG} {W0 X:World} {lv av:Value} {k m:Nat} (h:NmR p W0 X lv av k m):zP W0.heap.size X lv av (nmL p k m) (nmA p k m):=h.t
theorem NmR.Pf {p:cG} {W0 X X1 X2 X3:World} {lv av Uj wP:Value} {k m k' m':Nat} {ys zs:List ByteArray} (h:NmR p W0 X lv av k m) (h1:jy b9 1 9 W0.heap.size X X1 lv Uj (nmL p k m) ys) (k12:af [] X1 X2) (h2:jy b9 1 9 W0.heap.size X2 X3 av wP (nmA p k m) zs)
    (e1:nmL p k m++ys=nmL p k' m') (e2:nmA p k m++zs=nmA p k' m'):NmR p W0 X3 Uj wP k' m':=by
  have t1:=h.two.Kx h1;have t2:=(t1.aN k12).Ui h2;rw[e1,e2] at t2;exact⟨t2,((h.k.step h1.bY (fun b hb=>.inr (h.t.l.lt b (by simpa using hb)).1)).trans k12).step h2.bY (fun b hb=>.inr (h.t.a.lt b (by simpa using hb)).1)⟩
theorem NJ {p:cG} {k:Nat} {x:ByteArray×ByteArray} (h:p.bL[k]?=some x):nmL p k 0++[x.1]=nmL p (k+1) 0∧nmA p k 0++[x.1,x.2]=nmA p (k+1) 0:=by unfold nmL nmA;rw[c8,h];simp
theorem NI {p:cG} {k m:Nat} {x:ByteArray×Nat} (h:p.bI[m]?=some x):nmL p k m++[x.1]=nmL p k (m+1)∧nmA p k m++[x.1]=nmA p k (m+1):=by unfold nmL nmA;rw[c8 (l:=p.bI),h];simp
set_option maxRecDepth 8000 in
theorem Ku (p:cG) (iv pv rv:Value) (w:World) (hsm:p.items.length≤1048576∧p.bL.length≤1048576∧p.bI.length≤1048576) (hi:eh b9 1 w iv p.items) (hp:eh gJ 2 w pv p.bL) (hr:eh dN 2 w rv p.bI):
    Calls Tryz.prog 69 #[.agg #[.int .i64 p.kind,.string p.text,iv,pv,rv]] w fun r w'=>∃ lv av,r=.returned (.tuple #[lv,av])∧bF b9 1 9 w.heap.size w' lv (kL p)∧bF b9 1 9 w.heap.size w' av (zk p)∧af [] w w':=by
  obtain⟨W,hW⟩:∃ W,W=w.alloc (.cells #[.int .i64 p.kind,.string p.text,iv,pv,rv] 36):=⟨_,rfl⟩;have hkW:af [] w W:=by rw[hW];exact(af.refl _ w).alloc _
  have hb:W.heap[w.heap.size]?=some (.cells #[.int .i64 p.kind,.string p.text,iv,pv,rv] 36 (0,0)):=by rw[hW];exact aG w _
  have Ur:W.heap.size=w.heap.size+1:=by rw[hW];simp
  have Zr:=ae (hi.aN hkW);obtain⟨ia,nY,rfl,_,_,_,hia⟩:=hi.texts;obtain⟨pa,pj,rfl,_,_,_,hpa⟩:=hp.bL;obtain⟨ra,qU,rfl,_,_,_,hra⟩:=hr.lN;obtain⟨ni,hni⟩:∃ ni,p.items.length=ni:=⟨_,rfl⟩;obtain⟨np,hnp⟩:∃ np,p.bL.length=np:=⟨_,rfl⟩;obtain⟨nr,hnr⟩:∃ nr,p.bI.length=nr:=⟨_,rfl⟩;obtain⟨kd,hkd⟩:∃ kd,p.kind=kd:=⟨_,rfl⟩;obtain⟨tx,htx⟩:∃ tx,p.text=tx:=⟨_,rfl⟩;have pV:=ae hsm;rw[hni,hnp,hnr,hkd,htx] at hb hW;rw[hni,hnp,hnr,hkd,htx];rw[hni] at Zr;rw[hnp] at hpa;rw[hnr] at hra;have IG:ni≤1048576:=by rw[←hni];exact hsm.1
  have IF:np≤1048576:=by rw[←hnp];exact hsm.2.1
  have IE:nr≤1048576:=by rw[←hnr];exact hsm.2.2
  have OZ:=ae hpa;have MS:=ae hra;have wS:=ae hni;have Ec:=ae hnp;have zS:=ae hnr;have qg:=ae hkd;have GX:=ae htx;have kK:=ae hkW
  have HC:=ae (show ∀ X,af [] W X→X.cell? ⟨w.heap.size,0,none⟩=some (.int .i64 kd)∧X.cell? ⟨w.heap.size,1,none⟩=some (.string tx)∧X.cell? ⟨w.heap.size,2,none⟩=some (.slice ia ni nY)∧X.cell? ⟨w.heap.size,3,none⟩=some (.slice pa np pj)∧X.cell? ⟨w.heap.size,4,none⟩=some (.slice ra nr qU) from fun X hk=>by
    have h2:=hk.get hb (by simp)
    exact⟨by rw[ah h2];rfl,by rw[ah h2];rfl,by rw[ah h2];rfl,by rw[ah h2];rfl,by rw[ah h2];rfl⟩)
  have c1:=(HC.out W (af.refl _ _)).2.1;have hk1:af [] W (W.alloc (.cells #[.string tx] 9)):=(af.refl _ W).alloc _;have c2:=(HC.out _ hk1).2.2.1;have HA1:=ae (qS W [tx] W.heap.size (aq _) (by simp[maxLen]));have Zd:=ae Ur;clear hi hp hr hia hpa hra hni hnp hnr hkd htx hkW hb hsm hk1 Ur;go_enter Tryz.func69,Tryz.ntmps69
  go_upto_region 2 with(fail)
  rw[←hW];clear hW
  go_upto_region 4 with(at_builtin;go_loud (refine mL rfl _ _ rfl W.heap.size (.slice (some ⟨W.heap.size,0,none⟩) 1 1) [tx] p.items (.slice ia ni nY) rfl HA1.out rfl (Zr.out.aN ((af.refl _ W).alloc _)) (by simp) (by rw[wS.out];omega) (by simp) ?_;intro v1 w1 hp;have HP:=ae hp;clear hp))
  have k1:af [] W w1:=((af.refl [] W).alloc _).step HP.out.bY (fun b hb=>.inr (by simp[Value.ownBlock] at hb;omega));have Ed:Hid (bF b9 1 9 W.heap.size w1 v1 (p.text::p.items)∧af [] W w1):=ae ⟨by have:=HP.out.own;rw[←GX.out] at this;exact this,k1⟩;have c10:=(HC.out w1 k1).1;have c12:=(HC.out w1 k1).2.2.1;clear c1 c2 k1
  go_upto_if 17 with(fail)
  go_cut [4] (fun lo wx=>∃ lv,lv=lo∧Hid (NmR p W wx lv v1 0 0))
  case first=>as_aux_lemma=>
    by_cases h4:kd=4
    · have H4:=ae (show p.kind=4 from qg.out.trans h4)
      subst h4;go_wp2_with (at_builtin;go_loud (refine mL rfl _ _ rfl W.heap.size (.slice none 0 0) [] p.items (.slice ia ni nY) rfl (bF.nil _ _ _ _ _) rfl (Zr.out.aN Ed.out.2) (by simp) (by rw[wS.out];omega) Ed.out.2.size ?_;intro v2 w2 hp;have jK:=ae hp;clear hp))
      go_meet;refine⟨_,rfl,ae ⟨⟨?_,?_,fun b hb e=>?_⟩,Ed.out.2.trans jK.out.bY⟩⟩
      · rw[aQ H4.out]
        have:=jK.out.own;simpa using this
      · have:=Ed.out.1.aN jK.out.bY
        simpa using this
      · have h1:=(Ed.out.1.lt b e).2
        rcases jK.out.at_ b hb with h2|h2
        · simp[Value.ownBlock] at h2
        · omega
    · have H4:=ae (show ¬p.kind=4 by rw[qg.out];exact h4)
      go_wp2_with fail
      go_meet;refine⟨_,rfl,ae ⟨⟨?_,?_,fun b hb e=>?_⟩,Ed.out.2⟩⟩
      · rw[aJ H4.out]
        simpa using bF.nil b9 1 9 W.heap.size _
      · simpa using Ed.out.1
      · simp[Value.ownBlock] at hb
  case rest=>
    obtain⟨lv,rfl,HV⟩:=hcut;clear c10 c12;go_wp2_with fail
    go_loopw [6,4,5] (fun i l a X=>∃ (k:Nat) (lo ao:Value),i=.int .i64 (k:Int)∧lo=l∧ao=a∧k≤np∧Hid (NmR p W X lo ao k 0)) (fun i _ _ _=>np-(intOf i).toNat)
    case atStart=>exact⟨0,_,_,rfl,rfl,rfl,bz _,HV⟩
    case round=>
      obtain⟨k,lo,ao,rfl,rfl,rfl,hk,HW⟩:=hrel;have d3:=(HC.out wr HW.out.k).2.2.2.1
      by_cases hlt2:k<np
      · obtain⟨x,hx⟩:∃ x,p.bL[k]?=some x:=⟨_,ag (by rw[Ec.out];exact hlt2)⟩
        obtain⟨g,off,rfl,hcc⟩:=OZ.out (by omega);have hkn:(k:Int)<(np:Int):=by omega
        have xG:=ae (show ∀ X,af [] W X→(X.cell? ⟨w.heap.size,3,none⟩=some (.slice (some ⟨g,off,none⟩) np pj)∧X.cell? ⟨g,off+k*2,none⟩=some (.string x.1)∧X.cell? ⟨g,off+k*2+1,none⟩=some (.string x.2)) from fun X hk=>⟨(HC.out X hk).2.2.2.1,ak (kK.out.trans hk) (hcc k x hx).1,ak (kK.out.trans hk) (hcc k x hx).2⟩);have d1:=(xG.out wr HW.out.k).2.1;have pX:=ae (NJ hx);have kN:=ae (HW.out.lens pV.out);clear hx hcc
        go_upto_region 10 with(at_builtin;go_loud (refine Ab rfl _ _ rfl W.heap.size lo (nmL p k 0).length (nmL p k 0) x.1 rfl HW.out.two.l rfl rfl (by have:(nmL p k 0).length≤3145728:=kN.out.1;omega) HW.out.k.size ?_;intro g1 c1 w5 hp;have k5:af [] W w5:=HW.out.k.step hp.bY (fun b hb=>.inr (HW.out.t.l.lt b (by simpa using hb)).1);have S8:=ae hp;have K5:=ae k5;have e3:=(xG.out w5 k5).1;clear hp k5))
        have pq:IntKind.i64.wrap (k:Int)=(k:Int):=by rw[cH];omega
        have P0:=ae (fun(X:World) (hk:af [] w5 X)=>((HW.out.two.Kx S8.out.spread).a).aN hk)
        have HR5:=ae (fun(X:World) (hk:X.heap[w5.heap.size]?=some (.cells #[.string x.1,.string x.2] 9 (0,0)))=>show eh b9 1 X (.slice (some ⟨w5.heap.size,0,none⟩) 2 2) [x.1,x.2] from⟨_,2,rfl,aq _,by simp[maxLen],fun h=>by simp at h,fun _=>⟨w5.heap.size,0,rfl,fun i y hy j u hu=>by
          have hi:=(au.1 hy).1;simp at hi;have hj:=(au.1 hu).1;simp[b9] at hj;subst hj
          rcases(by omega:i=0∨i=1) with rfl|rfl
          · simp at hy;subst hy;simp[b9] at hu;subst hu;rw[ah hk];rfl
          · simp at hy;subst hy;simp[b9] at hu;subst hu;rw[ah hk];rfl⟩⟩)
        have hS0:=xG.out w5.drew K5.out.drew
        go_region_held3 (fun X=>(X.cell? ⟨w.heap.size,3,none⟩=some (.slice (some ⟨g,off,none⟩) np pj)∧X.cell? ⟨g,off+k*2,none⟩=some (.string x.1)∧X.cell? ⟨g,off+k*2+1,none⟩=some (.string x.2)))
          (first|exact hS0|exact xG.out _ (K5.out.drew.alloc _)|exact xG.out _ ((K5.out.alloc _).drew)|exact xG.out _ K6.out)
          (first|(refine Qf rfl _ _ rfl W.heap.size ao (nmA p k 0) [x.1,x.2] (.slice (some ⟨w5.heap.size,0,none⟩) 2 2) rfl (P0.out _ ((af.refl _ w5).alloc _).drew) rfl (HR5.out _ (aG w5 _)) (aF kN.out.2 (by decide)) (by simp) (aF K5.out.size (by simp)) ?_;intro v6 w6 hp;have K6:=ae (((K5.out.alloc (.cells #[.string x.1,.string x.2] 9)).drew).step hp.bY (fun b hb=>.inr (HW.out.t.a.lt b (by simpa using hb)).1));have Zz:=ae hp;clear hp))
        go_wp2_with fail
        go_roundw
        case rel=>exact⟨k+1,_,_,by go_num,rfl,rfl,by omega,ae (HW.out.Pf S8.out.spread (((af.refl _ w5).alloc _).drew) Zz.out pX.out.1 pX.out.2)⟩
        case measure=>simp[intOf];omega
      · obtain rfl:k=np:=by omega
        clear OZ;go_wp2_with fail
        go_loopw [7,4,5] (fun i l a X=>∃ (q:Nat) (lo ao:Value),i=.int .i64 (q:Int)∧lo=l∧ao=a∧q≤nr∧Hid (NmR p W X lo ao k q)) (fun i _ _ _=>nr-(intOf i).toNat)
        case atStart=>exact⟨0,_,_,rfl,rfl,rfl,bz _,HW⟩
        case round=>
          clear d3;clear HW;obtain⟨q,lo,ao,rfl,rfl,rfl,hq,HW⟩:=hrel;have d4:=(HC.out wr HW.out.k).2.2.2.2
          by_cases hlt3:q<nr
          · obtain⟨x,hx⟩:∃ x,p.bI[q]?=some x:=⟨_,ag (by rw[zS.out];exact hlt3)⟩
            obtain⟨g,off,rfl,hcc⟩:=MS.out (by omega);have XR:(q:Int)<(nr:Int):=by omega
            have xG:=ae (show ∀ X,af [] W X→(X.cell? ⟨w.heap.size,4,none⟩=some (.slice (some ⟨g,off,none⟩) nr qU)∧X.cell? ⟨g,off+q*2,none⟩=some (.string x.1)) from fun X hk=>⟨(HC.out X hk).2.2.2.2,ak (kK.out.trans hk) (hcc q x hx).1⟩);have d1:=(xG.out wr HW.out.k).2;have pX:=ae (NI (k:=k) hx);have kN:=ae (HW.out.lens pV.out);clear hx hcc
            go_wp2_with (at_builtin;go_loud (first
              | (have _:=K5
                 refine Ab rfl _ _ rfl W.heap.size ao (nmA p k q).length (nmA p k q) x.1 rfl P0.out rfl rfl (by have:(nmA p k q).length≤4194305:=kN.out.2;omega) K5.out.size ?_;intro g2 c2 w6 hp;have Zz:=ae hp
                 clear hp)
              | (refine Ab rfl _ _ rfl W.heap.size lo (nmL p k q).length (nmL p k q) x.1 rfl HW.out.two.l rfl rfl (by have:(nmL p k q).length≤3145728:=kN.out.1;omega) HW.out.k.size ?_
                 intro g1 c1 w5 hp;have k5:af [] W w5:=HW.out.k.step hp.bY (fun b hb=>.inr (HW.out.t.l.lt b (by simpa using hb)).1);have S8:=ae hp;have P0:=ae (HW.out.two.Kx hp.spread).a;have K5:=ae k5;have e4:=(xG.out w5 k5).1;have e1:=(xG.out w5 k5).2
                 clear hp k5)))
            go_roundw
            case rel=>exact⟨q+1,_,_,by go_num,rfl,rfl,by omega,ae (HW.out.Pf S8.out.spread (af.refl _ w5) Zz.out.spread pX.out.1 pX.out.2)⟩
            case measure=>simp[intOf];omega
          · obtain rfl:q=nr:=by omega
            go_wp2_with fail
            go_ret2
            have e1:nmL p k q=kL p:=by unfold nmL kL;rw[aE (by rw[Ec.out];exact aq _),aE (by rw[zS.out];exact aq _)]
            have e2:nmA p k q=zk p:=by unfold nmA zk;rw[aE (by rw[Ec.out];exact aq _),aE (by rw[zS.out];exact aq _)]
            have h1:=HW.out.two.l;have h2:=HW.out.two.a;rw[e1] at h1;rw[e2] at h2;exact⟨_,_,rfl,h1.mono (by have:=Zd.out;omega),h2.mono (by have:=Zd.out;omega),kK.out.trans HW.out.k⟩
end jw
namespace jw
open ks (af ae hlt ah bC alloc_old aG aX aT dp)
def iw (ts:List ByteArray):List Value:=(ts.map Value.string++List.replicate (32-ts.length) (Value.string ByteArray.empty))++[.int .i64 (ts.length:Int)]
def jb (ts:List ByteArray):Obj:=.cells (iw ts).toArray 158 (0,0)
theorem oR {ts:List ByteArray} (h:ts.length≤32):(iw ts).length=33:=by unfold iw;simp;omega
theorem tN {ts:List ByteArray} {i:Nat} {x:ByteArray} (h:ts[i]?=some x):(iw ts)[i]?=some (.string x):=by have hl:=(au.1 h).1;unfold iw;rw[b8 (by simp;omega),b8 (by simpa using hl),bK,h];rfl
theorem vM {ts:List ByteArray} (h:ts.length≤32):(iw ts)[32]?=some (.int .i64 (ts.length:Int)):=by unfold iw;rw[bN (by simp;omega)];simp[show 32-(ts.length+(32-ts.length))=0 by omega]
theorem zg {ts:List ByteArray} {i:Nat} (h1:ts.length≤i) (h2:i<32):(iw ts)[i]?=some (.string ByteArray.empty):=by unfold iw;rw[b8 (by simp;omega),bN (by simp;omega),aU,jj,aQ (by omega)]
theorem Ft {ts:List ByteArray} (h:ts.length<32) (s:ByteArray):((iw ts).toArray.setIfInBounds ts.length (.string s)).setIfInBounds 32 (.int .i64 ((ts.length:Int)+1))=(iw (ts++[s])).toArray:=by
 apply jG
 intro i;have l1:=oR (ts:=ts) (by omega);have l2:=oR (ts:=ts++[s]) (by simp;omega);rw[fP];simp only[qi,cJ,l1]
 by_cases hi:32=i
 ·subst hi;have:=vM (ts:=ts++[s]) (by simp;omega);rw[aQ rfl,aQ (by omega),bX,this];simp
 ·rw[aJ hi,fP];simp only[cJ,l1]
  by_cases hi2:ts.length=i
  ·rw[aQ hi2,aQ (by omega),bX];rw[tN (ts:=ts++[s]) (x:=s) (by rw[←hi2];simp)]
  ·rw[aJ hi2,bX,bX]
   by_cases hi3:i<ts.length
   ·rw[tN (ag hi3),tN (ts:=ts++[s]) (x:=ts[i]) (by rw[b8 hi3,ag hi3])]
   ·by_cases hi4:i<32
    ·rw[zg (by omega) hi4,zg (by simp;omega) hi4]
    ·rw[bR (by omega),bR (by omega)]
structure CK where
 b:Nat
 ts:List ByteArray
def mf (c:CK):List Value:=[dp c.b]
theorem Fk:Enc mf 1:=⟨fun _=>rfl,fun x u hu=>by simp[mf] at hu;rw[hu];rfl,by decide⟩
def cO (cs:List CK):List ByteArray:=cs.flatMap (fun c=>c.ts)
structure o9 (B:Nat) (w:World) (db:Nat) (sv:Value) (cs:List CK) (cost:Nat):Prop where
 hd:w.heap[db]?=some (.cells #[sv,.int .i64 ((cO cs).length:Int),.int .i64 (cost:Int)] 155 (0,0))
 row:bF mf 1 159 B w sv cs
 ch:∀ c∈cs,w.heap[c.b]?=some (jb c.ts)∧B≤c.b∧c.ts.length≤32∧0<c.ts.length
 nd:(cs.map (fun c=>c.b)).Nodup
 b:B≤db
 cost:cost≤1048592*(cO cs).length
theorem wk {cs:List CK} (h:∀ c∈cs,0<c.ts.length):cs.length≤(cO cs).length:=by
 induction cs with
 | nil=>simp[cO]
 | cons c cs ih=>have h1:=h c (by simp);have h2:=ih (fun x hx=>h x (by simp[hx]));unfold cO at *;rw[di,aM,List.length_cons];omega
theorem o9.apart {B:Nat} {w:World} {db:Nat} {sv:Value} {cs:List CK} {cost:Nat} (h:o9 B w db sv cs cost):sv.ownBlock≠some db∧(∀ c∈cs,c.b≠db∧sv.ownBlock≠some c.b):=by refine⟨h.row.bw h.hd (by decide),fun c hc=>⟨fun e=>?_,h.row.bw (h.ch c hc).1 (by decide)⟩⟩;have h1:=(h.ch c hc).1;rw[e,h.hd] at h1;unfold jb at h1;simp at h1
theorem o9.aN {B:Nat} {w w':World} {db:Nat} {sv:Value} {cs:List CK} {cost:Nat} (h:o9 B w db sv cs cost) (hk:af [] w w'):o9 B w' db sv cs cost:=⟨hk.get h.hd (by simp),h.row.aN hk,fun c hc=>⟨hk.get (h.ch c hc).1 (by simp),(h.ch c hc).2⟩,h.nd,h.b,h.cost⟩
theorem LN (w:World):Calls Tryz.prog 52 #[] w fun r w'=>r=.returned (dp w.heap.size)∧w.alloc (.cells #[.slice none 0 0,.int .i64 0,.int .i64 0] 155)=w':=by
 unfold dp;go_enter Tryz.func52,Tryz.ntmps52
 go_wp2
 go_ret;exact⟨rfl,rfl⟩
theorem Sw (w:World) (B:Nat) (hB:B≤w.heap.size):o9 B (w.alloc (.cells #[.slice none 0 0,.int .i64 0,.int .i64 0] 155)) w.heap.size (.slice none 0 0) [] 0:=⟨aG w _,bF.nil _ _ _ _ _,by simp,by simp,hB,by simp⟩
theorem M9 (s:ByteArray) (w:World) (hs:s.size≤1048576):Calls Tryz.prog 129 #[.string s] w fun r w'=>r=.returned (.int .i64 (16+(s.size:Int)))∧w=w':=by
 go_enter Tryz.func129,Tryz.ntmps129
 go_wp2
 go_ret;exact⟨rfl,rfl⟩
theorem JW (db n:Nat) (s:ByteArray) (w:World) (hc:w.cell? ⟨db,1,none⟩=some (.int .i64 (n:Int))) (hs:s.size≤1048576) (hn:n<1048576):
  Calls Tryz.prog 93 #[dp db,.string s] w fun r w'=>r=.returned (.int .i64 0)∧w=w':=by
 have h1:decide ((1048576:Int)<(s.size:Int))=false:=by simp;omega
 have h2:decide ((1048576:Int)≤(n:Int))=false:=by simp;omega
 unfold dp;go_enter Tryz.func93,Tryz.ntmps93
 go_wp2
 go_ret;exact⟨rfl,rfl⟩
theorem yr (c:Nat) (l:Int) (h0:0≤l) (h1:l≤32):∃ A cp,∀ W,(Instr.sliceAt 156 (.pointer (some ⟨c,0,none⟩)) (some (.int .i64 l)) (some (.int .i64 l)) none).run Tryz.prog W=.ok (.slice (some A) 0 cp) W:=by
 have hal:Tryz.prog.arrayLen 156=32:=by kernel_rfl
 refine⟨if 32=l.toNat then ⟨c,0,none⟩ else (⟨c,0,none⟩:Addr).add (l.toNat*1),32-l.toNat,fun W=>?_⟩;rw[run_sliceAt_array_lh W 156 ⟨c,0,none⟩ (by kernel_rfl) .i64 .i64 l l h0 (nF _) (by rw[hal];exact h1)];have hs:(sizeOf (Tryz.prog.elem 156)).run Tryz.prog W=.ok 1 W:=by kernel_rfl
 rw[hs,hal];unfold slicedAt;simp[Result.andThen]
theorem T3 (c:Nat) (ts:List ByteArray) (s:ByteArray) (w:World) (h:w.heap[c]?=some (jb ts)) (hn:ts.length<32):
  Calls Tryz.prog 128 #[dp c,.int .i64 (ts.length:Int),.string s] w fun r w'=>r=.returned (.tuple #[])∧w'.heap[c]?=some (jb (ts++[s]))∧af [c] w w':=by
 have cn:w.cell? ⟨c,32,none⟩=some (.int .i64 (ts.length:Int)):=by rw[ah h,bX];exact vM (by omega)
 obtain⟨cv,cp⟩:∃ cv,w.cell? ⟨c,ts.length,none⟩=some cv:=by rw[ah h,bX];exact⟨_,ag (by rw[oR (by omega)];omega)⟩
 have fz:∀ o,w.frozen? ⟨c,o,none⟩=false:=bC h;have f1:=fz ts.length;have f2:=fz 32
 have O7:Hid (((w.setCell ⟨c,ts.length,none⟩ (.string s)).setCell ⟨c,32,none⟩ (.int .i64 ((ts.length:Int)+1))).heap[c]?=some (jb (ts++[s]))):=ae (by
  have h1:=aX h ts.length (.string s);have h2:=aX h1 32 (.int .i64 ((ts.length:Int)+1))
  rw[h2,Ft hn];rfl)
 obtain⟨n,hnn⟩:∃ n,n=ts.length:=⟨_,rfl⟩;rw[←hnn] at cn cp f1 O7 hn ⊢;have hni:(n:Int)<32:=by omega
 have hne:n≠32:=by omega
 clear fz h hnn;unfold dp;go_enter Tryz.func128,Tryz.ntmps128
 have hwr:IntKind.i64.wrap ((n:Int)+1)=(n:Int)+1:=by rw[cH];omega
 obtain⟨A1,c1,hsl1⟩:=yr c ((n:Int)+1) (by omega) (by omega);obtain⟨A2,c2,hsl2⟩:=yr c (n:Int) (by omega) (by omega);have hcp:∀ W,(Builtin.copy_ #[32,32] 3 #[.slice (some A1) 0 c1,.slice (some A2) 0 c2]).run Tryz.prog W=.ok (.int .i64 0) W:=fun W=>run_copy_none (P:=Tryz.prog) W 32 32 3 9 (some A1) (some A2) 0 c1 0 c2 Tryz.underlying32 (by kernel_rfl) rfl
 go_wp2_with fail
 go_quiet (fail)
 go_wp2_with fail
 go_end0
 exact⟨rfl,O7.out,(((af.refl [c] w).drewN nq).setCell (p:=⟨c,n,none⟩) (.inl (by simp)) _).setCell (p:=⟨c,32,none⟩) (.inl (by simp)) _⟩
end jw
end Go.Proofs.YthpdlidbaojlbaaGreatDoor
