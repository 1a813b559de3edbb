/- dict of nothing: its chains, one by one. (Printed from XJD3  -/
import Derived.Test.YthpdlidbaojlbaaGreatDoorQ17
set_option linter.unusedVariables false
set_option linter.unusedSimpArgs false
set_option maxHeartbeats 4000000
open Go.ChangeShapes Go.WideShapes Go.RowKit
namespace Go.Proofs.YthpdlidbaojlbaaGreatDoor
namespace ks.ed
theorem u0 (db:Nat) (D:DM Unit) (w:World) (h:bu dty w db D) (hy:D.aW=[]):
  Calls Tryz.prog 136 #[dp db] w fun r w'=>r=.returned (.tuple #[])∧w=w':=by
 have hm:mv D=false:=by unfold mv;rw[hy];rfl
 have H:=ae h;clear h hy;unfold dp;go_enter Tryz.func136,Tryz.ntmps136
 go_wp2_with fail
 refine(iC db D _ H.out).mono ?_;rintro r w' ⟨rfl,rfl⟩;rw[hm];clear hm;go_wp2
 exact gH (kz rfl _ _ _) rfl ⟨rfl,rfl⟩
structure Pass (w wr:World) (db:Nat) (D:DM Unit) (k j:Nat):Prop where
 i:bu dty wr db { D with cur:=j }
 kp:af [db] w wr
 s:skip D.old (10-k) j=skip D.old 10 D.cur
 le:j≤D.old.length
theorem iY {w wr:World} {db:Nat} {D:DM Unit} {k j:Nat} (h:Pass w wr db D k j) (n:Nat):Pass w (wr.drewN n) db D k j:=⟨h.i.bY (fun _ _=>rfl),h.kp.drewN n,h.s,h.le⟩
def ly (l:Option (List (DE Unit))):Bool:=match l with|some (_::_)=>true|_=>false
def sO (l:Option (List (DE Unit))):Bool:=match l with|some []=>true|_=>false
def gl (D:DM Unit) (k j:Nat):Bool:=decide (k<10) && sO D.old[j]?
set_option maxRecDepth 100000 in
theorem sq (db:Nat) (D:DM Unit) (w:World) (hwf:D.WF) (h:bu dty w db D) (hy:D.aW≠[]):
  Calls Tryz.prog 136 #[dp db] w fun r w'=>r=.returned (.tuple #[])∧bu dty w' db D.step∧af (D.blocks db) w w':=by
 have hm:mv D=true:=by unfold mv;cases hd:D.aW with|nil=>exact absurd hd hy|cons=>rfl
 have hon:D.old≠[]:=fun e=>hy (hwf.none e)
 have hlt:=hwf.lt hy;have vC:=h.bo;obtain⟨n,hn⟩:∃ n,n=D.old.length:=⟨_,rfl⟩;have HN:=ae hn;rw[←hn] at hlt vC;have HW:=ae hwf;have HY:=ae hy;have D5:=ae hon;have H:=ae h;clear h hy hon hwf hn;unfold dp;go_enter Tryz.func136,Tryz.ntmps136
 go_wp2_with fail
 refine(iC db D _ H.out).mono ?_;rintro r w' ⟨rfl,rfl⟩;rw[hm];clear hm;go_wp2_with fail
 go_loopw [2] (fun t wr=>∃ (k j:Nat),t=.int .i64 (k:Int)∧k≤10∧Hid (Pass w wr db D k j)) (fun t _=>10-(intOf t).toNat)
 case atStart=>exact⟨0,D.cur,rfl,by omega,ae ⟨H.out,af.refl _ _,rfl,by rw[←HN.out];omega⟩⟩
 case round=>
  obtain⟨k,j,rfl,hk,HP⟩:=hrel;have c1:=HP.out.i.c1;have c2:=HP.out.i.c2;have c3:=HP.out.i.c3;have hle:=HP.out.le;rw[eQ D5.out,←HN.out] at c1;rw[←HN.out] at hle;simp only at c3
  go_upto_region 2 with(fail)
  go_cut [34] (fun t wx=>t=.bool (gl D k j)∧∃ q,wx=wr.drewN q)
  case first=>as_aux_lemma=>
   by_cases hk10:k=10
   ·subst hk10;have hd:decide (((10:Nat):Int)<10)=false:=rfl;have HB:=ae (show gl D 10 j=false by simp[gl]);go_quiet (fail)
    go_wp2_with fail
    go_meet;exact⟨by rw[HB.out],_,rfl⟩
   ·have hd:(k:Int)<10:=by omega
    by_cases hj:j<n
    ·have hjj:(j:Int)<(n:Int):=by omega
     have hj0:(0:Int)≤(j:Int):=by omega
     obtain⟨l,hl⟩:∃ l,D.old[j]?=some l:=⟨_,ag (by rw[←HN.out];exact hj)⟩;have hcl:=HP.out.i.ho.cell hl;simp only at hcl
     cases l with
     | nil=>
      have HB:=ae (show gl D k j=true by unfold gl;rw[hl];simp[sO];omega);unfold ptr at hcl;clear hl;go_quiet (fail)
      go_wp2_with fail
      go_meet;exact⟨by rw[HB.out],_,rfl⟩
     | cons e l=>
      have HB:=ae (show gl D k j=false by unfold gl;rw[hl];simp[sO]);unfold ptr at hcl;clear hl;go_quiet (fail)
      go_wp2_with fail
      go_meet;exact⟨by rw[HB.out],_,rfl⟩
    ·obtain rfl:j=n:=by omega
     have HB:=ae (show gl D k j=false by unfold gl;rw[bR (by rw[←HN.out];exact aq _)];simp[sO]);have hjj:decide ((j:Int)<(j:Int))=false:=by simp
     go_quiet (fail)
     go_wp2_with fail
     go_meet;exact⟨by rw[HB.out],_,rfl⟩
  case rest=>
   obtain⟨rfl,q,rfl⟩:=hcut;have jK:=ae (iY HP.out q);clear HP c1 c2 c3;generalize wr.drewN q=W at jK
   have c1:=jK.out.i.c1;have c3:=jK.out.i.c3;have f3:=jK.out.i.free 3;rw[eQ D5.out] at c1;simp only[←HN.out] at c1 c3
   cases hb:gl D k j with
   | true=>
    have hpb:k<10∧D.old[j]?=some []:=by
     unfold gl sO at hb;simp only[cQ,dr] at hb;refine⟨hb.1,?_⟩;have h2:=hb.2
     split at h2
     ·assumption
     ·cases h2
    obtain⟨hk2,yS⟩:=hpb;have hjl:j<n:=by rw[HN.out];exact(au.1 yS).1
    have HG:=ae yS;clear hb yS;go_wp2_with fail
    go_roundw
    case rel=>
     refine⟨k+1,j+1,by go_num,by omega,ae ⟨?_,(jK.out.kp.setCell (p:=⟨db,3,none⟩) (.inl (by simp)) _),?_,by rw[←HN.out];omega⟩⟩
     ·have:=BS jK.out.i (j+1);rw[show((j+1:Nat):Int)=(j:Int)+1 from rfl] at this;exact this
     ·rw[←jK.out.s,show 10-k=(10-(k+1))+1 by omega]
      conv=>rhs;unfold skip
      rw[HG.out]
    case measure=>simp[intOf];omega
   | false=>
    have hj:j=skip D.old 10 D.cur:=by
     rw[←jK.out.s]
     by_cases hk2:k<10
     ·rw[show 10-k=(10-(k+1))+1 by omega];unfold skip;unfold gl at hb;rw[show decide (k<10)=true by simpa using hk2,qh] at hb
      cases ho:D.old[j]? with
      | none=>rfl
      | some l=>
       rw[ho] at hb
       cases l with
       | nil=>cases hb
       | cons e l=>rfl
     ·rw[show 10-k=0 by omega];rfl
    have HJ:=ae hj;clear hb hj;have hjle:j≤n:=by have:=jK.out.le;rw[←HN.out] at this;exact this
    go_upto_region 5 with(fail)
    go_cut [66] (fun t wx=>t=.bool (ly D.old[j]?)∧∃ q,wx=W.drewN q)
    case first=>as_aux_lemma=>
     by_cases hj:j<n
     ·have hjj:(j:Int)<(n:Int):=by omega
      have hj0:(0:Int)≤(j:Int):=by omega
      obtain⟨l,hl⟩:∃ l,D.old[j]?=some l:=⟨_,ag (by rw[←HN.out];exact hj)⟩;have hcl:=jK.out.i.ho.cell hl;simp only at hcl
      cases l with
      | nil=>
       have HB:=ae (show ly D.old[j]?=false by rw[hl];rfl);unfold ptr at hcl;clear hl;go_quiet (fail)
       go_wp2_with fail
       go_meet;exact⟨by rw[HB.out],_,rfl⟩
      | cons e l=>
       have HB:=ae (show ly D.old[j]?=true by rw[hl];rfl);unfold ptr at hcl;clear hl;go_quiet (fail)
       go_wp2_with fail
       go_meet;exact⟨by rw[HB.out],_,rfl⟩
     ·obtain rfl:j=n:=by omega
      have HB:=ae (show ly D.old[j]?=false by rw[bR (by rw[←HN.out];exact aq _)];rfl);have hjj:decide ((j:Int)<(j:Int))=false:=by simp
      go_quiet (fail)
      go_wp2_with fail
      go_meet;exact⟨by rw[HB.out],_,rfl⟩
    case rest=>
     obtain⟨rfl,q,rfl⟩:=hcut;have tk:=ae (iY jK.out q);clear jK c1 c3 f3;generalize W.drewN q=W3 at tk
     go_upto_if 66 with(fail)
     go_cut [] (fun wx=>Hid (bu dty wx db D.dV∧af (D.blocks db) w wx))
     case first=>as_aux_lemma=>
      have c1:=tk.out.i.c1;have c2:=tk.out.i.c2;have c3:=tk.out.i.c3;have f3:=tk.out.i.free 3;rw[eQ D5.out] at c1;simp only[←HN.out] at c1 c2 c3
      cases hb:ly D.old[j]? with
      | false=>
       have he:∀ e l,D.old[j]?≠some (e::l):=by intro e l he;rw[he] at hb;cases hb
       have hmv:D.dV={ D with cur:=j }:=by rw[DM.oK (by rw[←HJ.out];exact he),←HJ.out]
       have HM:=ae hmv;clear he hb c1 c2 c3 f3 hmv;go_wp2_with fail
       go_meet;exact ae ⟨by rw[HM.out];exact tk.out.i,tk.out.kp.mono (fun b hb=>by simp at hb;subst hb;simp[DM.blocks])⟩
      | true=>
       obtain⟨e,l,hel⟩:∃ e l,D.old[j]?=some (e::l):=by
        unfold ly at hb
        split at hb
        ·exact⟨_,_,by assumption⟩
        ·cases hb
       have hjlt:j<n:=by rw[HN.out];exact(au.1 hel).1
       have hjj:(j:Int)<(n:Int):=by omega
       have hj0:(0:Int)≤(j:Int):=by omega
       have hcl:=tk.out.i.ho.cell hel;simp only at hcl;unfold ptr at hcl;have o8:=ae hel;clear hb hel
       go_upto_region 6 with(fail)
       go_quiet (fail)
       go_wp2_with fail
       have qL:=ae (iY tk.out nq);clear tk c1 c2 c3 f3 hcl;generalize W3.drewN nq=W4 at qL
       go_loopg [3] (e::l).length (fun g p wr=>∃ pre suf,p=ptr suf∧suf.length=g∧Hid (Mid dty W4 wr { D with cur:=j } (e::l) pre suf))
       case atStart=>exact⟨[],e::l,rfl,rfl,ae (wG qL.out.i o8.out)⟩
       case round=>
        obtain⟨pre,suf,rfl,hg,HM⟩:=hrel;have HG:=ae hg;clear hg
        cases suf with
        | nil=>
         have hpre:pre=e::l:=by have:=HM.out.eq;simp at this;exact this.symm
         subst hpre;have hhd:=oL qL.out.i HY.out o8.out HM.out;have hrow:=xO qL.out.i HY.out o8.out HM.out;have hlt':D.cur≤j:=by rw[HJ.out];exact xL _ _ _
         have Dm:({ D with cur:=j }:DM Unit).WF:=⟨HW.out.keys,HW.out.nc,HW.out.ox,fun i hi=>by
          by_cases hc:i<D.cur
          ·exact HW.out.gone i hc
          ·exact qm D.old 10 D.cur i (by omega) (by rw[←HJ.out];exact hi),fun hh=>absurd hh HY.out,HW.out.none,HW.out.n,fun _=>by rw[HN.out] at hjlt;exact hjlt⟩
         have hsk:skip D.old 10 j=j:=by unfold skip;rw[o8.out]
         have hlast:=Bn qL.out.i Dm HY.out o8.out (by simp) HM.out hsk
         have hmv:({ D with cur:=j }:DM Unit).dV=D.dV:=by rw[DM.ju (D:=D) (by rw[←HJ.out];exact o8.out),DM.ju (D:={ D with cur:=j }) (e:=e) (l:=l) (by simp only[hsk];exact o8.out)];simp only[hsk,←HJ.out]
         rw[hmv] at hlast;simp only at hlast hrow;have xw:=ae hlast;have d1:wr.cell? ⟨db,1,none⟩=some (.slice (some ⟨D.ob,0,none⟩) n n):=by rw[ah hhd,HN.out];simp only[lq];rw[eQ D5.out];rfl
         have d3:wr.cell? ⟨db,3,none⟩=some (.int .i64 (j:Int)):=by rw[ah hhd];rfl
         have f3:wr.frozen? ⟨db,3,none⟩=false:=bC hhd 3;have fo:wr.frozen? ⟨D.ob,j,none⟩=false:=bC hrow j;have co:∃ v,wr.cell? ⟨D.ob,j,none⟩=some v:=⟨ptr (e::l),by rw[ah hrow,bX,bK,o8.out];rfl⟩;obtain⟨cv,co⟩:=co;have hne:D.ob≠db:=fun e2=>(jN qL.out.i).1 (e2 ▸ gQ D5.out)
         clear hhd hrow hlast hmv hsk Dm hlt';unfold ptr;go_wp2_with fail
         go_still_tail 9,(by kernel_rfl)
         go_wp2_with fail
         go_meet;refine ae ⟨xw.out.1.bY (fun _ _=>rfl),?_⟩;exact(qL.out.kp.mono (fun b hb=>by simp at hb;subst hb;simp[DM.blocks])).trans (xw.out.2.drew)
        | cons e2 r=>
         have hhd:=oL qL.out.i HY.out o8.out HM.out;have hch:=HM.out.ch.1;obtain⟨q2,hq2⟩:=sw r;have hnx:wr.cell? ⟨e2.b,1,none⟩=some (.pointer q2):=by rw[←hq2];exact jM hch
         have hd2:wr.cell? ⟨db,2,none⟩=some (fJ D.yb D.aW):=by rw[ah hhd];rfl
         have hd0:wr.cell? ⟨db,0,none⟩=some (.int .u64 D.seed):=by rw[ah hhd];rfl
         have HD0:=ae hd0;have zB:=ae hch;have I7:=ae hq2;clear hhd hch hd0 hq2
         have hks:e2.k.size≤maxLen:=qL.out.i.ks e2 (by
          have:e2∈e::l:=by rw[HM.out.eq];simp
          exact bh _ (dM.2 ⟨_,aB o8.out,this⟩))
         have MA:=ae hks;clear hks;unfold ptr;go_wp2_with fail
         rw[←lF (gF D.seed pre D.aW) D.yb];obtain⟨hb1,hb2,hb3⟩:=ri qL.out.i HY.out o8.out HM.out;refine(xg D.seed db D.yb (pre.foldl (gZ D.seed) D.aW) e2 (ptr r) _ qL.out.i.sd MA.out HD0.out HM.out.y hb3 (by rw[gF];have:=qL.out.i.by_;simp only at this;omega) zB.out hb1).mono ?_;clear hb1 hb2 hb3;rintro r2 w2 ⟨rfl,ht,hk2⟩;have D6:=ae (yK qL.out.i HY.out o8.out HM.out ht hk2);clear ht hk2;go_wp2_with fail
         go_roundg r.length
         case measure=>have:=HG.out;simp at this;omega
         case rel=>exact⟨pre++[e2],r,I7.out.symm,rfl,D6⟩
     case rest=>
      have HC:=ae (show bu dty wc db D.dV∧af (D.blocks db) w wc from hcut);clear hcut tk;obtain⟨m1,m2,m3,_,_,_,_,_,m9,_,m11⟩:=DM.jn HW.out HY.out;have Db:D.dV.aW≠[]:=(DM.lM HW.out HY.out db).2;have hstep:D.step=D.dV.nG:=by unfold DM.step;rw[aJ HY.out]
      rw[←HN.out] at m2 m9;have mon:D.dV.old≠[]:=by intro e;rw[e] at m2;simp at m2;omega
      generalize D.dV=M at HC m2 m9 Db mon hstep
      have c1:=HC.out.1.c1;have c2:=HC.out.1.c2;have c3:=HC.out.1.c3;have f1:=HC.out.1.free 1;have f2:=HC.out.1.free 2;have f3:=HC.out.1.free 3;rw[eQ mon,m2] at c1;obtain⟨tv,qj⟩:∃ tv,tv=fJ M.yb M.aW:=⟨_,rfl⟩;rw[eQ Db] at qj;have Vs:=ae qj;have c2':wc.cell? ⟨db,2,none⟩=some (.slice (some ⟨M.yb,0,none⟩) M.aW.length M.aW.length):=by rw[c2,eQ Db]
      have hyl:=HC.out.1.by_;clear c2 qj Vs;generalize PC:M.cur=j2 at c3
      generalize BG:M.aW.length=n2 at c2' hyl
      have PR:=ae Db;have HST:=ae hstep;have D6:=ae m2;have PY:=ae PC;have Vo:=ae BG;clear Db hstep m1 m2 m3 m11 PC BG mon
      by_cases sH:j2=n
      ·subst sH;go_wp2_with fail
       go_quiet (fail)
       go_wp2_with fail
       go_end0
       refine⟨rfl,?_,?_⟩
       ·rw[HST.out];unfold DM.nG;rw[aQ (by rw[PY.out,D6.out])];have h5:=yi (HC.out.1.bY (w':=wc.drewN nq) (fun _ _=>rfl)) PR.out;rw[eQ PR.out,Vo.out] at h5;exact h5
       ·exact(((HC.out.2.drewN nq).setCell (p:=⟨db,1,none⟩) (.inl (by simp[DM.blocks])) _).setCell (p:=⟨db,2,none⟩) (.inl (by simp[DM.blocks])) _).setCell (p:=⟨db,3,none⟩) (.inl (by simp[DM.blocks])) _
      ·have hne:((j2:Int) == (n:Int))=false:=by simp;omega
       go_wp2_with fail
       go_quiet (fail)
       go_wp2_with fail
       go_end0
       refine⟨rfl,?_,HC.out.2.drewN nq⟩;rw[HST.out];unfold DM.nG;rw[aJ (by rw[PY.out,D6.out];exact sH)];exact HC.out.1.bY (fun _ _=>rfl)
theorem sr (db:Nat) (D:DM Unit) (w:World) (hwf:D.WF) (h:bu dty w db D):
  Calls Tryz.prog 136 #[dp db] w fun r w'=>r=.returned (.tuple #[])∧bu dty w' db D.step∧af (D.blocks db) w w':=by
 by_cases hy:D.aW=[]
 ·refine(u0 db D w h hy).mono ?_;rintro r w' ⟨rfl,rfl⟩;exact⟨rfl,by unfold DM.step;rw[aQ hy];exact h,af.refl _ _⟩
 ·exact sq db D w hwf h hy
theorem sC (c:Nat):madeCells (Value.cells (.pointer none)) c=(List.replicate c (.pointer none)).toArray:=by
 unfold madeCells
 apply wU
 ·simp
 ·intro i h1 h2;simp[Value.cells,nA]
theorem yQ:(Tryz.prog.info? 229).map (fun i=>(i.zero,i.size,i.bytes))=some (some (.pointer none),1,8):=by kernel_rfl
theorem run_mk (w:World) (c:Int) (n:Nat) (hc:c=n) (hn:n≤35184372088832):
  (Instr.makeSlice 222 (.int .i64 c) (.int .i64 c)).run Tryz.prog w=.ok (.slice (some ⟨w.heap.size,0,none⟩) n n) (w.alloc (.cells (List.replicate n (.pointer none)).toArray 229)):=by
 obtain⟨i,hi,hz,hs,hb⟩:=cF yQ;subst hc;have:=run_make (P:=Tryz.prog) w 222 229 i _ Tryz.underlying222 hi hz .i64 .i64 (n:Int) (n:Int) (by omega) (nF _) (by rw[hb];omega) (by omega);rw[hs,bB,Int.toNat_natCast,sC] at this;exact this
theorem fV {w:World} {db:Nat} {D:DM Unit} (h:bu dty w db D) (n:Nat):bu dty (w.drewN n) db D:=h.bY (fun _ _=>rfl)
theorem lL (E:DM Unit) (db:Nat) (w:World) (b:Bool) (h:bu dty w db E) (hb:mv E=b):
  Calls Tryz.prog 138 #[dp db] w fun e w'=>e=.returned (.bool b)∧w'=w:=
 (iC db E w h).mono fun e w' ⟨h1,h2⟩=>⟨by rw[←hb];exact h1,h2.symm⟩
def Dx (o:Option (DE Unit)):Value:=match o with|some e=>.tuple #[.agg #[],.bool true]|none=>.tuple #[.agg #[],.bool false]
theorem Lx (db:Nat) (D:DM Unit) (k:ByteArray) (w:World) (hwf:D.WF) (h:bu dty w db D) (hk:k.size≤maxLen) (hnew:D.step.find k=none):
  Calls Tryz.prog 134 #[dp db,.string k] w fun r w'=>r=.returned (Dx (D.step.find k))∧bu dty w' db D.step∧af (D.blocks db) w w':=by
 have HW:=ae hwf;have HD:=ae (fun W (hk:af [] w W)=>sr db D W hwf (h.keeps hk (by simp)));have HK:=ae hk;have kH:=ae hnew;clear hwf h hk hnew;unfold dp;go_enter Tryz.func134,Tryz.ntmps134
 go_wp2_with fail
 have hk0:af [] w ((w.alloc (.cells #[] 176)).alloc (.cells #[] 176)):=((af.refl _ w).alloc _).alloc _;refine(HD.out _ hk0).mono ?_;rintro r w1 ⟨rfl,h1,hk1⟩;have H1:=ae h1;have rP:Hid (af (D.blocks db) w w1):=ae ((hk0.mono (by simp)).trans hk1);clear hk0;clear h1 hk1;go_wp2_with fail
 refine(xj db D.step k _ H1.out HK.out).mono ?_;rintro r w2 ⟨rfl,rfl⟩;rw[mD.2 kH.out];go_wp2_with fail
 refine gH (v:=.tuple #[.agg #[],.bool false]) (by rw[results_cell_tmp rfl];go_simp) rfl ?_;exact⟨by rw[kH.out];rfl,H1.out,rP.out⟩
set_option maxRecDepth 100000 in
theorem JL (db:Nat) (D:DM Unit) (k:ByteArray) (v:Unit) (w:World) (hwf:D.WF) (h:bu dty w db D) (hk:k.size≤maxLen) (hn:D.n<8796093022208) (hnew:D.step.find k=none):
  Calls Tryz.prog 104 #[dp db,.string k,.agg #[]] w fun r w'=>∃ b tb nb,r=.returned (.bool b)∧bu dty w' db (D.set k v tb nb)∧af (D.blocks db) w w'∧(∀ x∈(D.set k v tb nb).blocks db,x∈D.blocks db∨w.heap.size≤x):=by
 obtain⟨hw1,hsp,hsd,hsn⟩:=DM.fE hwf;obtain⟨xb,hxb⟩:=DM.lz hwf db;obtain⟨_,hsub⟩:=qR hxb h.nd;have hstep:=fun W (hk:af [] w W)=>sr db D W hwf (h.keeps hk (by simp))
 have hset:∀ tb nb,D.set k v tb nb=D.step.put k v tb nb:=fun _ _=>rfl
 simp only[hset];rw[←hsn] at hn;generalize D.step=E at hw1 hsp hsn hsub hn hstep hnew ⊢
 have kH:=ae hnew;clear hnew;have HW1:=ae hw1;have xF:=ae hsub;have fC:=ae hstep;have HK:=ae hk;clear hwf h hset hsp hsn hsd hw1 hxb hsub hstep hk;unfold dp;go_enter Tryz.func104,Tryz.ntmps104
 go_wp2_with fail
 have hk0:af [] w (w.alloc (.cells #[] 176)):=(af.refl _ w).alloc _;refine(fC.out _ hk0).mono ?_;rintro r w1 ⟨rfl,h1,hk1⟩;have H1:=ae h1;have rP:Hid (af (D.blocks db) w w1):=ae ((hk0.mono (by simp)).trans hk1);have hsz1:=rP.out.size;clear hk0;clear h1 hk1;go_wp2_with fail
 refine(xj db E k _ H1.out HK.out).mono ?_;rintro r w2 ⟨rfl,rfl⟩;obtain⟨p,hp⟩:∃ p,p=E.ln dty k:=⟨_,rfl⟩;rw[←hp]
 cases p with
 | some a=>have hf:=(mD (ty:=dty)).2 kH.out;rw[hf] at hp;cases hp
 | none=>
  have hf:=mD.1 hp.symm;have hall:∀ e∈E.all,e.k≠k:=by rw[DM.find_eq HW1.out] at hf;exact lT hf
  have rQ:=ae hall;have c1:=H1.out.c1;have c2:=H1.out.c2;have c4:=H1.out.c4;have f1:=H1.out.free 1;have f2:=H1.out.free 2;have vC:=H1.out.bo;have n1:=iJ w1 ⟨db,1,none⟩ c1;have n2:=iJ w1 ⟨db,2,none⟩ c2;have hdb:db<w1.heap.size:=hlt H1.out.hd;clear hp hf hall;obtain⟨oa,hoa⟩:=gj E.ob E.old;obtain⟨ya,hya⟩:=gj E.yb E.aW;rw[hoa] at c1;rw[hya] at c2;have O0:=ae hoa;have Mt:=ae hya;generalize hln:E.old.length=n at c1 vC
  generalize yR:E.aW.length=m at c2
  have kN:=ae hln;have HLY:=ae yR;clear hoa hya hln yR
  go_upto_block 0 with(fail)
  go_cut [] (fun wx=>∃ tb,Hid (bu dty wx db (E.grown tb)∧af [db] w1 wx∧tb∉E.blocks db∧w1.heap.size≤tb∧tb≠wx.heap.size))
  case first=>as_aux_lemma=>
   have HF:=ae (show ∀ x∈E.blocks db,x<w1.heap.size from H1.out.lt)
   by_cases ho:E.old=[]
   ·have hy:=HW1.out.none ho;have HG:=ae (sM H1.out ho hy);have hn0:n=0:=by rw[←kN.out,ho];rfl
    subst hn0;have hmk:=fun w:World=>run_mk w 4 4 rfl (by decide)
    clear ho hy;go_wp2_with fail
    go_meet;refine⟨w1.heap.size,ae ⟨by rw[←fM _ db 1 _ hdb];exact HG.out,((af.refl _ w1).setCell (p:=⟨db,1,none⟩) (.inl (by simp)) _).alloc _,fun hm=>?_,aq _,?_⟩⟩
    ·have:=HF.out _ hm;omega
    ·simp
   ·have hp:0<n:=by rw[←kN.out];exact bZ.2 ho
    have HO:=ae ho;have hnz:((n:Int) == 0)=false:=by simp;omega
    clear ho
    have hsame:∀ q,E.aW≠[]∨E.n<n→∃ tb,Hid (bu dty (w1.drewN q) db (E.grown tb)∧af [db] w1 (w1.drewN q)∧tb∉E.blocks db∧w1.heap.size≤tb∧tb≠(w1.drewN q).heap.size):=by
     intro q hc;refine⟨w1.heap.size+1,ae ⟨?_,(af.refl _ w1).drewN q,fun hm=>?_,by omega,by show w1.heap.size+1≠w1.heap.size;omega⟩⟩
     ·rw[uK HO.out (by rw[kN.out];exact hc)];exact fV H1.out q
     ·have:=HF.out _ hm;omega
    have HS:=ae hsame;clear hsame
    by_cases hy:E.aW=[]
    ·have hmv:mv E=false:=by unfold mv;rw[hy];rfl
     by_cases hle:n≤E.n
     ·have hmk:=fun w:World=>run_mk w (2*(n:Int)) (2*n) (by omega) (by omega)
      have hgeq:(n:Int)≤(E.n:Int):=by omega
      have HY:=ae hy;clear hy;go_wp2_with fail
      go_quiet ((go_at_call 138;exact dJ (lL E db _ _ (fV H1.out _) hmv)))
      obtain⟨W,hW⟩:∃ W,W=w1.drewN nq:=⟨_,rfl⟩;have H2:Hid (bu dty W db E):=ae (by rw[hW];exact fV H1.out nq);have hsz:w1.heap.size≤W.heap.size:=by rw[hW];exact aq _
      have kM:Hid (af [db] w1 W):=ae (by rw[hW];exact(af.refl _ w1).drewN nq);rw[←hW];clear hW c1 c2 c4 f1 f2 n1 n2;have c1:=H2.out.c1;have c2:=H2.out.c2;have f2:=H2.out.free 2;have n2:=iJ W ⟨db,2,none⟩ c2;have HG:=ae (ry H2.out HO.out HY.out (by rw[kN.out];exact hle));rw[kN.out] at HG;rw[O0.out] at c1;rw[Mt.out] at c2;rw[kN.out] at c1;have zJ:db<W.heap.size:=by omega
      go_wp2_with fail
      go_meet;refine⟨W.heap.size,ae ⟨?_,(kM.out.setCell (p:=⟨db,2,none⟩) (.inl (by simp)) _).alloc _,fun hm=>?_,hsz,?_⟩⟩
      ·rw[←fM _ db 2 _ zJ,←List.toArray_replicate];exact HG.out
      ·have:=HF.out _ hm;omega
      ·simp
     ·have hd:decide ((n:Int)≤(E.n:Int))=false:=by simp;omega
      have HS2:=ae (fun q=>HS.out q (.inr (by omega)));clear hy;go_wp2_with fail
      go_quiet ((go_at_call 138;exact dJ (lL E db _ _ (fV H1.out _) hmv)))
      go_wp2_with fail
      go_meet;exact HS2.out _
    ·have hmv:mv E=true:=by unfold mv;cases hd:E.aW with|nil=>exact absurd hd hy|cons=>rfl
     have HS2:=ae (fun q=>HS.out q (.inl hy));clear hy;go_wp2_with fail
     go_quiet ((go_at_call 138;exact dJ (lL E db _ _ (fV H1.out _) hmv)))
     go_wp2_with fail
     go_meet;exact HS2.out _
  case rest=>
   obtain⟨tb,HC⟩:=hcut;clear c1 c2 c4 f1 f2 n1 n2;obtain⟨g1,g2,g3,g4,g5⟩:=DM.lA HW1.out tb;have hput:=DM.mz HW1.out (k:=k) v tb wc.heap.size rQ.out;have hbl:=DM.oE HW1.out (k:=k) v (tb:=tb) (nb:=wc.heap.size) (db:=db) rQ.out H1.out.nd HC.out.2.2.1 (fun hm=>by have:=H1.out.lt _ hm;have:=HC.out.2.1.size;omega) HC.out.2.2.2.2;have Jl:=ae hbl;have MG:=ae (DM.wL HW1.out tb db);have vU:=ae hput;have hgn:(E.grown tb).n<8796093022208:=by rw[g4];exact hn
   have sK:∀ x∈(E.grown tb).all,x.k≠k:=by rw[g2];exact rQ.out
   clear hbl hput g2 g3 g4;generalize E.grown tb=G at HC vU MG g1 g5 hgn sK
   have MV:=ae g1;have GZ:=ae g5;have D7:=ae sK;have HD:=ae HC.out.1;have c1:=HD.out.c1;have c2:=HD.out.c2;have c4:=HD.out.c4;have htl:=AU HD.out;have zJ:db<wc.heap.size:=hlt HD.out.hd;have hsz2:=HC.out.2.1.size;have hw:wc.alloc (gG dty ⟨wc.heap.size,k,v⟩ (.pointer none))=wc.alloc (.cells #[.string k,.pointer none] 231):=rfl;have HW:=ae hw
   have hfin:∀ w2:World,TabIs dty w2 G.fU (gZ G.seed G.tgt ⟨wc.heap.size,k,v⟩)→af [wc.heap.size,G.fU] (wc.alloc (gG dty ⟨wc.heap.size,k,v⟩ (.pointer none))) w2→
     bu dty (w2.setCell ⟨db,4,none⟩ (.int .i64 ((G.n+1:Nat):Int))) db (E.put k v tb wc.heap.size)∧af (D.blocks db) w (w2.setCell ⟨db,4,none⟩ (.int .i64 ((G.n+1:Nat):Int)))∧(∀ x∈(E.put k v tb wc.heap.size).blocks db,x∈D.blocks db∨w.heap.size≤x)∧
     w2.cell? ⟨db,4,none⟩=some (.int .i64 G.n)∧w2.frozen? ⟨db,4,none⟩=false:=by
    intro w2 ht hk2;have PD:bu dty (wc.alloc (gG dty ⟨wc.heap.size,k,v⟩ (.pointer none))) db G:=HD.out.bY (fun b hb=>Below.heap_alloc _ _ _ (HD.out.lt b hb));have hfr:wc.heap.size∉G.blocks db:=fun hm=>by have:=HD.out.lt _ hm;omega
    have Pv:G.fU∈G.blocks db:=nU _ (gQ (oz GZ.out));refine⟨?_,?_,fun x hx=>?_,?_⟩
    ·rw[vU.out];exact wQ PD MV.out GZ.out D7.out hfr HK.out hgn ht hk2
    ·have hgb:∀ x∈G.blocks db,x∈D.blocks db∨w.heap.size≤x:=by
      intro x hx
      rcases MG.out x hx with h1|h1
      ·exact .inl (xF.out x h1)
      ·right;have:=HC.out.2.2.2.1;omega
     have k1:af (D.blocks db) w wc:=rP.out.trans (HC.out.2.1.mono (fun b hb=>by simp at hb;subst hb;simp[DM.blocks]));have k2:af (D.blocks db) w (wc.alloc (gG dty ⟨wc.heap.size,k,v⟩ (.pointer none))):=k1.alloc _;refine(k2.step hk2 (fun b hb=>?_)).setCell (p:=⟨db,4,none⟩) (.inl (by simp[DM.blocks])) _;simp only[bM,dU,sy] at hb
     rcases hb with rfl|rfl
     ·right;omega
     ·exact hgb _ Pv
    ·rcases Jl.out.2 x hx with h1|h1|h1
     ·exact .inl (xF.out x h1)
     ·right;have:=HC.out.2.2.2.1;omega
     ·right;omega
    ·have hdt:db≠G.fU:=by
      have:=(bT.1 HD.out.nd).1;intro e2;have h3:=gQ (tb:=G.fU) (oz GZ.out);unfold DM.fU DM.tgt at h3;rw[e2] at this;unfold DM.fU at this
      split at h3
      ·rename_i hy;rw[aQ hy] at this;exact this (bh _ h3)
      ·rename_i hy;rw[aJ hy] at this;exact this (bA _ h3)
     have hhd:=hk2.get PD.hd (k:=db) (by simp;exact⟨by omega,hdt⟩);exact⟨by rw[ah hhd];rfl,bC hhd 4⟩
   have gA:=ae hfin;have hnew:(wc.alloc (gG dty ⟨wc.heap.size,k,v⟩ (.pointer none))).heap[wc.heap.size]?=some (gG dty ⟨wc.heap.size,k,v⟩ (.pointer none)):=aG _ _;have Dr:(wc.heap.size::cg G.fU G.tgt).Nodup:=bT.2 ⟨fun hm=>by have:=HD.out.lt _ (nU _ hm);omega,wj HD.out⟩;have htab:TabIs dty (wc.alloc (gG dty ⟨wc.heap.size,k,v⟩ (.pointer none))) G.fU G.tgt:=(Eg HD.out).bY (fun b hb=>Below.heap_alloc _ _ _ (HD.out.lt b (nU _ hb)))
   have hc0:(wc.alloc (gG dty ⟨wc.heap.size,k,v⟩ (.pointer none))).cell? ⟨db,0,none⟩=some (.int .u64 G.seed):=by rw[ah (alloc_old _ HD.out.hd)];rfl
   have xd:=xg G.seed db G.fU G.tgt ⟨wc.heap.size,k,v⟩ (.pointer none) _ HD.out.sd HK.out hc0 htab (oz GZ.out) (by omega) hnew Dr;have pY:=ae xd;clear hfin hnew Dr htab hc0 xd hw g1 g5 sK htl Jl MG;obtain⟨Ue,qx⟩:=gj G.ob G.old;obtain⟨TM,qw⟩:=gj G.yb G.aW
   by_cases hy:G.aW=[]
   ·have hmv:mv G=false:=by unfold mv;rw[hy];rfl
    have qj:fJ G.fU G.tgt=fJ G.ob G.old:=by unfold DM.fU DM.tgt;rw[aQ hy,aQ hy]
    rw[qj,qx] at pY;rw[qx] at c1;rw[qw] at c2;clear hy qw qx qj;go_wp2_with fail
    refine(iC db G _ HD.out).mono ?_;rintro r w' ⟨rfl,rfl⟩;rw[hmv];clear hmv;go_wp2_with fail
    refine pY.out.mono ?_;rintro r w2 ⟨rfl,ht,hk2⟩;obtain⟨q1,q2,q3,q4,q5⟩:=gA.out w2 ht hk2;rw[show((G.n+1:Nat):Int)=(G.n:Int)+1 from rfl] at q1 q2;have Q1:=ae q1;have Q2:=ae q2;have Q3:=ae q3;clear ht hk2 q1 q2 q3;go_wp2_with fail
    go_ret;exact⟨_,_,_,rfl,Q1.out,Q2.out,Q3.out⟩
   ·have hmv:mv G=true:=by unfold mv;cases hd:G.aW with|nil=>exact absurd hd hy|cons=>rfl
    have qj:fJ G.fU G.tgt=fJ G.yb G.aW:=by unfold DM.fU DM.tgt;rw[aJ hy,aJ hy]
    rw[qj,qw] at pY;rw[qx] at c1;rw[qw] at c2;clear hy qw qx qj;go_wp2_with fail
    refine(iC db G _ HD.out).mono ?_;rintro r w' ⟨rfl,rfl⟩;rw[hmv];clear hmv;go_wp2_with fail
    refine pY.out.mono ?_;rintro r w2 ⟨rfl,ht,hk2⟩;obtain⟨q1,q2,q3,q4,q5⟩:=gA.out w2 ht hk2;rw[show((G.n+1:Nat):Int)=(G.n:Int)+1 from rfl] at q1 q2;have Q1:=ae q1;have Q2:=ae q2;have Q3:=ae q3;clear ht hk2 q1 q2 q3;go_wp2_with fail
    go_ret;exact⟨_,_,_,rfl,Q1.out,Q2.out,Q3.out⟩
end ks.ed
namespace jw.ed
open ks (af ae hlt ah bC alloc_old aG aX aT dp KP pZ eS DM DE bu TabIs ptr fJ lq e9)
open sd (AlR lH)
attribute [local go_sem] Oper.semAt_some
abbrev dty:=ks.ed.dty
theorem gj (tb:Nat) (t:List (List (DE Unit))):∃ a cap,fJ tb t=.slice a t.length cap∧(t≠[]→a=some ⟨tb,0,none⟩):=by
 unfold fJ;split
 ·rename_i h;subst h;exact⟨_,_,rfl,fun h=>absurd rfl h⟩
 ·exact⟨_,_,rfl,fun _=>rfl⟩
theorem BR (ob n c:Nat) (t:List (List (DE Unit))) (hn:n=t.length) (hc:c≤n) (h0:c<n∨t=[]):∃ a cap,(∀ W,(Instr.sliceAt 222 (fJ ob t) (some (.int .i64 (c:Int))) none none).run Tryz.prog W=.ok (.slice a (n-c) cap) W)∧(t≠[]→a=some ⟨ob,c,none⟩):=by
 have hu:Tryz.prog.underlying 222=some (.slice (Tryz.prog.elem 222)):=by kernel_rfl
 have hs:∀ W,(sizeOf (Tryz.prog.elem 222)).run Tryz.prog W=.ok 1 W:=fun W=>by kernel_rfl
 unfold fJ
 by_cases ht:t=[]
 ·subst ht;simp at hn;subst hn;obtain rfl:c=0:=by omega
  refine⟨none,0,fun W=>?_,fun h=>absurd rfl h⟩;rw[aQ rfl,lI W _ _ _ _ _ hu,pC W _ none 0 0 hu .i64 _ (by omega) (by omega),hs];unfold sliced;simp[Result.andThen]
 ·have hlt:c<n:=by rcases h0 with h|h;exact h;exact absurd h ht
  refine⟨some ⟨ob,c,none⟩,n-c,fun W=>?_,fun _=>rfl⟩;rw[aJ ht,←hn,lI W _ _ _ _ _ hu,pC W _ _ n n hu .i64 _ (by omega) (by omega),hs];unfold sliced;have e:¬(n=((c:Int)).toNat):=by omega
  rw[Result.andThen,aJ e];simp[Addr.add];omega
set_option maxRecDepth 8000 in
theorem SH (n cx db:Nat) (D:DM Unit) (W:World) (hn:1≤n) (hcx:W.cell? ⟨cx,0,none⟩=some (dp db)) (hD:D.WF) (h:bu dty W db D):
  pZ (α:=List (DE Unit)) Fence.wide n Tryz.prog 374 #[dp cx] (fun l=>#[ptr l]) (D.old.drop D.cur++D.aW) (fun b=>b=cx∨b∈D.blocks db) W:=by
 intro l J G0 H0 hJ hY h0 hG hH;have h1:1≤n:=hn;have HJ:=ae hJ;have HY:=ae hY
 have HB:=ae (show ∀ X,KP (fun b=>¬H0 b) W X→bu dty X db D∧X.cell? ⟨cx,0,none⟩=some (dp db) from fun X hk=>by
  refine⟨h.bY (fun b hb=>hk.block b (h.lt b hb) (fun e=>(hH b e).2 (.inr hb))),?_⟩;have hl:=du W _ hcx;have:=hk.block cx hl (fun e=>(hH cx e).2 (.inl rfl))
  exact(ez (a:=⟨cx,0,none⟩) this).trans hcx)
 have Ea:Hid (AlR J H0 W (D.old.drop D.cur++D.aW) 0 W):=ae ⟨⟨G0,H0,h0,fun b hb=>.inl hb⟩,KP.refl _ _⟩
 have hcn:D.cur<D.old.length∨D.old=[]:=by
  by_cases hy:D.aW=[]
  ·have:=hD.cur hy
   by_cases ho:D.old=[]
   ·exact .inr ho
   ·exact .inl (by have:=bZ.2 ho;omega)
  ·exact .inl (hD.lt hy)
 have hcl:D.cur≤D.old.length:=by
  rcases hcn with h|h
  ·omega
  ·have:=hD.cur (hD.none h);omega
 obtain⟨a,cap,hsl,ha⟩:=BR D.ob D.old.length D.cur D.old rfl hcl hcn;have c1:=h.c1;have c3:=h.c3;have vC:=h.bo;have hby:=h.by_
 have HO:=ae (show ∀ X,KP (fun b=>¬H0 b) W X→∀ k l,(D.old.drop D.cur)[k]?=some l→∃ ob,a=some ⟨ob,D.cur,none⟩∧X.cell? ⟨ob,D.cur+k,none⟩=some (ptr l) from fun X hk k l hl=>by
  rw[fS] at hl;have hne:D.old≠[]:=by rintro e;rw[e] at hl;simp at hl
  exact⟨_,ha hne,(HB.out X hk).1.ho.cell hl⟩)
 have Zf:=ae (show ∀ X,KP (fun b=>¬H0 b) W X→∀ k l,D.aW[k]?=some l→X.cell? ⟨D.yb,k,none⟩=some (ptr l) from fun X hk k l hl=>(HB.out X hk).1.hy.cell hl);have FI:=ae (show ∀ X,KP (fun b=>¬H0 b) W X→X.cell? ⟨cx,0,none⟩=some (dp db)∧X.cell? ⟨db,2,none⟩=some (fJ D.yb D.aW) from fun X hk=>⟨(HB.out X hk).2,(HB.out X hk).1.c2⟩);obtain⟨no,hno⟩:∃ no,D.old.length-D.cur=no:=⟨_,rfl⟩;have rY:=ae (show no=(D.old.drop D.cur).length by simp[hno]);have Lk:no≤17592186044416:=by omega
 rw[hno] at hsl;have Vq:=ae (show(D.old.drop D.cur++D.aW).length=no+D.aW.length by rw[aM,←rY.out]);generalize D.old.drop D.cur=os at *
 generalize D.aW=ys at *
 generalize qj:fJ D.ob D.old=tv at *
 generalize D.cur=cur at *
 clear h hD ha hcn hcl hno qj vC h0 hJ hY;unfold dp at hcx FI ⊢;refine uh Tryz.func374 rfl trivial ?_ rfl;simp only[Tryz.ntmps374,cJ,List.length_cons,List.length_nil,Nat.reduceAdd,Nat.reduceSub,fv,Array.replicate_zero,gd,fF,List.nil_append,List.cons_append]
 gi_wp2_with fail
 gi_quiet (fail)
 gi_wp2
 gi_loopw [17,4] (fun i _ X=>∃ k:Nat,i=.int .i64 (k:Int)∧k≤no∧Hid (AlR J H0 W (os++ys) k X)) (fun i _ _=>no-(intOf i).toNat)
 case atStart=>exact⟨0,rfl,bz _,ae (Ea.out.lW HJ.out ((KP.refl _ _).drewN _))⟩
 case round=>
  obtain⟨k,rfl,hk,HV⟩:=hrel;clear hcx c1 c3
  by_cases hlt:k<no
  ·obtain⟨c,hc⟩:∃ c,os[k]?=some c:=⟨_,ag (by rw[←rY.out];exact hlt)⟩;obtain⟨ob,rfl,hcl⟩:=HO.out wr HV.out.kp k c hc;have hxs:(os++ys)[k]?=some c:=by rw[b8 (by rw[←rY.out];exact hlt)];exact hc
   have hkn:(k:Int)<(no:Int):=by omega
   obtain⟨⟨G,H,hjj,xQ⟩,hkp⟩:=HV.out;obtain⟨fn,tmps,assign,body,hy,hR⟩:=HY.out _ _ _ G H wr (lH hxs) hjj;have Cs:=ae xQ;have FH:=ae hkp;have Mv:=ae hxs;have HR:=ae hR;clear xQ hkp hxs hc hjj hR
   gi_wp2
   refine HR.out.mono ?_;rintro e W3 ⟨rfl,hr⟩;have I:Hid (AlR J H0 W (os++ys) (k+1) W3):=ae (sd.AlR.step FH.out Cs.out Mv.out hr);clear hr hy hcl
   gi_wp2
   refine⟨⟨k+1,rfl,by omega,I⟩,?_⟩;simp[intOf];omega
  ·obtain rfl:k=no:=by omega
   obtain⟨d1,d2⟩:=FI.out wr HV.out.kp;obtain⟨ya,Wu,hyv,hya⟩:=gj D.yb ys;obtain⟨ny,hny⟩:∃ ny,ys.length=ny:=⟨_,rfl⟩;rw[hyv,hny] at d2;have Mt:=ae hya;have My:=ae hny.symm;have Lj:ny≤17592186044416:=by rw[←hny];exact hby
   clear hyv hya hny hby
   gi_wp2
   gi_loopw [31,6] (fun i _ X=>∃ j:Nat,i=.int .i64 (j:Int)∧j≤ny∧Hid (AlR J H0 W (os++ys) (k+j) X)) (fun i _ _=>ny-(intOf i).toNat)
   case atStart=>exact⟨0,rfl,bz _,HV⟩
   case round=>
    obtain⟨j,rfl,hj,HE⟩:=hrel;clear d1 d2
    by_cases hjm:j<ny
    ·obtain⟨c,hc⟩:∃ c,ys[j]?=some c:=⟨_,ag (by rw[←My.out];exact hjm)⟩;obtain rfl:=Mt.out (by rintro rfl;simp at hc);have hcl:=Zf.out wr HE.out.kp j c hc;have hxs:(os++ys)[k+j]?=some c:=by rw[bN (by rw[←rY.out];omega),←rY.out,dC];exact hc
     have hjn:(j:Int)<(ny:Int):=by omega
     obtain⟨⟨G,H,hjj,xQ⟩,hkp⟩:=HE.out;obtain⟨fn,tmps,assign,body,hy,hR⟩:=HY.out _ _ _ G H wr (lH hxs) hjj;have Cs:=ae xQ;have FH:=ae hkp;have Mv:=ae hxs;have HR:=ae hR;clear xQ hkp hxs hc hjj hR
     gi_wp2
     refine HR.out.mono ?_;rintro e W3 ⟨rfl,hr⟩;have I:Hid (AlR J H0 W (os++ys) (k+(j+1)) W3):=ae (sd.AlR.step FH.out Cs.out Mv.out hr);clear hr hy hcl
     gi_wp2
     refine⟨⟨j+1,rfl,by omega,I⟩,?_⟩;simp[intOf];omega
    ·obtain rfl:j=ny:=by omega
     gi_wp2
     go_end0
     obtain⟨⟨G,H,hj,hh⟩,hk⟩:=HE.out;rw[aE (by have:=Vq.out;have:=My.out;omega)] at hj;exact⟨⟨_,rfl⟩,G,H,hj,hh,hk⟩
end jw.ed
end Go.Proofs.YthpdlidbaojlbaaGreatDoor
