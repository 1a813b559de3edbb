/- A dict in memory: what Get finds, what Set and Delete leave. -/
import Derived.Test.YthpdlidbaojlbaaGreatDoorQ04
set_option linter.unusedVariables false
set_option linter.unusedSimpArgs false
set_option maxHeartbeats 4000000
open Go.ChangeShapes Go.WideShapes Go.RowKit
namespace Go.Proofs.YthpdlidbaojlbaaGreatDoor
namespace ks.sd
def dty:DTy ByteArray:=⟨219,217,214,fun v=>[.string v]⟩
theorem wX (seed:Nat) (k:ByteArray) (db tb n:Nat) (w:World) (h1:seed<18446744073709551616) (hk:k.size≤maxLen) (hc:w.cell? ⟨db,0,none⟩=some (.int .u64 seed)) (h0:0<n) (hn:n≤4611686018427387904):
  Calls Tryz.prog 169 #[dp db,.slice (some ⟨tb,0,none⟩) n n,.string k] w fun e w'=>e=.returned (.pointer (some ⟨tb,dQ seed n k,none⟩))∧w=w':=by
 have hs:=yp (hash seed k) n (BI seed k) h0 hn;obtain⟨i,hi⟩:∃ i,i=dQ seed n k:=⟨_,rfl⟩;have hlt:i<n:=by rw[hi];exact tz h0 k
 rw[show hash seed k &&& (n-1)=i from hi.symm] at hs;rw[←hi];clear hi;unfold dp;go_enter Tryz.func169,Tryz.ntmps169
 go_wp2_with (go_at_call 207;refine(Lu seed k _ h1 hk).mono ?_;rintro e w' ⟨rfl,rfl⟩)
 go_ret;exact⟨rfl,rfl⟩
theorem sE (seed:Nat) (k:ByteArray) (db tb:Nat) (t:Tab ByteArray) (w:World) (h1:seed<18446744073709551616) (hk:k.size≤maxLen) (hc:w.cell? ⟨db,0,none⟩=some (.int .u64 seed)) (ht:TabIs dty w tb t) (hn:t.length≤4611686018427387904):
  Calls Tryz.prog 168 #[dp db,fJ tb t,.string k] w fun e w'=>e=.returned (.pointer (fj dty seed tb t k))∧w=w':=by
 by_cases hne:t=[]
 ·subst hne;rw[show fJ tb ([]:Tab ByteArray)=.slice none 0 0 from rfl,show fj dty seed tb [] k=none from rfl];clear hc ht hn;unfold dp;go_enter Tryz.func168,Tryz.ntmps168
  go_wp2
  go_ret;exact⟨rfl,rfl⟩
 ·have hp:0<t.length:=bZ.2 hne;obtain⟨l,hl⟩:=pB hne seed k;obtain⟨n,hnn⟩:∃ n,n=t.length:=⟨_,rfl⟩;have hla:fj dty seed tb t k=eU dty k l ⟨tb,dQ seed n k,none⟩:=by unfold fj;rw[hl,hnn];rfl
  have hcl:=ht.cell hl;have hch:=ht.ch l (aB hl);rw[←hnn] at hp hn hcl;have qj:fJ tb t=.slice (some ⟨tb,0,none⟩) n n:=by unfold fJ;rw[aJ hne,hnn]
  rw[hla,qj];obtain⟨a,ha⟩:∃ a,a=(⟨tb,dQ seed n k,none⟩:Addr):=⟨_,rfl⟩;rw[←ha] at hcl ⊢;obtain⟨R,hR⟩:∃ R,R=eU dty k l a:=⟨_,rfl⟩;rw[←hR];have HRR:=ae hR;clear hR;have HA:=ae ha;have zB:=ae hch;have Pa:=ae hcl;have HC:=ae hc;clear hla qj hnn hl ha ht hne hch hcl;unfold dp;go_enter Tryz.func168,Tryz.ntmps168
  go_wp2_with (go_at_call 169;refine(wX seed k db tb n _ h1 hk HC.out hp hn).mono ?_;rintro e w' ⟨rfl,rfl⟩)
  go_loopg [7] l.length (fun g p wr=>wr=w∧∃ (m:List (DE ByteArray)) (b:Addr),p=.pointer (some b)∧Hid (m.length=g∧e9 dty w m∧w.cell? b=some (ptr m)∧R=eU dty k m b))
  case atStart=>exact⟨rfl,l,a,by rw[HA.out],ae ⟨rfl,zB.out,Pa.out,HRR.out⟩⟩
  case round=>
   obtain⟨rfl,m,b,rfl,hm⟩:=hrel;obtain⟨h1,h2,h3,h4⟩:=hm.out;clear hm
   cases m with
   | nil=>
    unfold ptr at h3;have H1:=ae h1;have H4:=ae h4;clear h1 h2 h4 hc;go_wp2
    go_ret;exact⟨by rw[H4.out];rfl,rfl⟩
   | cons e r=>
    have hkc:=qs h2.1;unfold ptr at h3;have H1:=ae h1;have H2:=ae h2;have H4:=ae h4;clear h1 h2 h4 hc
    by_cases hek:e.k=k
    ·have hcmp:=ux hek;go_wp2
     go_ret;refine⟨?_,rfl⟩;rw[H4.out];unfold eU;rw[aQ hek];rfl
    ·have hcmp:=iB hek;go_wp2
     go_roundg r.length
     case measure=>have:=H1.out;simp at this;omega
     case rel=>
      refine⟨rfl,r,⟨e.b,2,none⟩,rfl,ae ⟨rfl,H2.out.2,jM H2.out.1,?_⟩⟩;rw[H4.out]
      show eU dty k (e::r) b=eU dty k r (wF dty e)
      conv=>lhs;unfold eU
      rw[aJ hek]
theorem qq (db yb:Nat) (w:World) (hc:w.cell? ⟨db,2,none⟩=some (.slice none 0 0)):
  Calls Tryz.prog 132 #[dp db] w fun e w'=>e=.returned (.bool false)∧w=w':=by
 unfold dp;go_enter Tryz.func132,Tryz.ntmps132
 go_wp2
 go_ret;exact⟨rfl,rfl⟩
theorem oJ (db yb n:Nat) (w:World) (h0:0<n) (hc:w.cell? ⟨db,2,none⟩=some (.slice (some ⟨yb,0,none⟩) n n)):
  Calls Tryz.prog 132 #[dp db] w fun e w'=>e=.returned (.bool true)∧w=w':=by
 unfold dp;go_enter Tryz.func132,Tryz.ntmps132
 go_wp2
 go_ret;exact⟨yw (by simp),rfl⟩
def mv (D:DM ByteArray):Bool:=!D.aW.isEmpty
theorem iC (db:Nat) (D:DM ByteArray) (w:World) (h:bu dty w db D):
  Calls Tryz.prog 132 #[dp db] w fun e w'=>e=.returned (.bool (mv D))∧w=w':=by
 have h2:=h.c2
 by_cases hy:D.aW=[]
 ·rw[show mv D=false by unfold mv;rw[hy];rfl];rw[hy] at h2;exact qq db 0 w h2
 ·rw[show mv D=true by unfold mv;cases hd:D.aW with|nil=>exact absurd hd hy|cons=>rfl];rw[eQ hy] at h2;exact oJ db D.yb D.aW.length w (bZ.2 hy) h2
theorem xj (db:Nat) (D:DM ByteArray) (k:ByteArray) (w:World) (h:bu dty w db D) (hk:k.size≤maxLen):
  Calls Tryz.prog 131 #[dp db,.string k] w fun e w'=>e=.returned (.pointer (D.ln dty k))∧w=w':=by
 have c0:=h.c0;have c1:=h.c1;have c2:=h.c2;have H:=ae h;have MI:=ae c0;have vC:=h.bo;have hby:=h.by_;clear h c0;obtain⟨p,hp⟩:∃ p,p=fj dty D.seed D.ob D.old k:=⟨_,rfl⟩;unfold dp DM.ln;rw[←hp]
 cases p with
 | some a=>
  have HP:=ae hp;clear hp;rw[show(some a).or (fj dty D.seed D.yb D.aW k)=some a from rfl];go_enter Tryz.func131,Tryz.ntmps131
  go_wp2_with fail
  refine(sE D.seed k db D.ob D.old _ H.out.sd hk MI.out H.out.ho (by omega)).mono ?_;rintro e w' ⟨rfl,rfl⟩;rw[←HP.out];go_wp2
  go_ret;exact⟨rfl,rfl⟩
 | none=>
  have HP:=ae hp;clear hp;rw[show(none:Option Addr).or (fj dty D.seed D.yb D.aW k)=fj dty D.seed D.yb D.aW k from rfl];go_enter Tryz.func131,Tryz.ntmps131
  go_wp2_with fail
  refine(sE D.seed k db D.ob D.old _ H.out.sd hk MI.out H.out.ho (by omega)).mono ?_;rintro e w' ⟨rfl,rfl⟩;rw[←HP.out];go_wp2_with fail
  refine(sE D.seed k db D.yb D.aW _ H.out.sd hk MI.out H.out.hy (by omega)).mono ?_;rintro e w' ⟨rfl,rfl⟩;go_wp2
  go_ret;exact⟨rfl,rfl⟩
theorem xg (seed db tb:Nat) (t:Tab ByteArray) (e:DE ByteArray) (nx:Value) (w:World) (h1:seed<18446744073709551616) (hk:e.k.size≤maxLen) (hc:w.cell? ⟨db,0,none⟩=some (.int .u64 seed))
  (ht:TabIs dty w tb t) (hne:t≠[]) (hn:t.length≤4611686018427387904) (he:w.heap[e.b]?=some (gG dty e nx)) (hnd:(e.b::cg tb t).Nodup):
  Calls Tryz.prog 133 #[dp db,fJ tb t,dp e.b] w fun r w'=>r=.returned (.tuple #[])∧TabIs dty w' tb (gZ seed t e)∧af [e.b,tb] w w':=by
 obtain⟨l,hl⟩:=pB hne seed e.k;have hp:0<t.length:=bZ.2 hne;have hcl:=ht.cell hl;have hfr:=ht.free hne (dQ seed t.length e.k);have hfe:=As he 2;have hkc:=qs he;have hnc:w.cell? ⟨e.b,2,none⟩=some nx:=jM he;have hlast:=ht.gZ hne seed hl he hnd
 have hkeep:af [e.b,tb] w ((w.setCell ⟨e.b,2,none⟩ (ptr l)).setCell ⟨tb,dQ seed t.length e.k,none⟩ (ptr (e::l))):=((af.refl _ w).setCell (p:=⟨e.b,2,none⟩) (.inl (by simp)) _).setCell (p:=⟨tb,_,none⟩) (.inl (by simp)) _
 have hbt:e.b≠tb:=by rw[bT] at hnd;exact fun e2=>hnd.1 (e2 ▸ gQ hne)
 rw[eQ hne];generalize hnn:t.length=n at hp hn hcl hfr hlast hkeep ⊢
 obtain⟨i,hi⟩:∃ i,i=dQ seed n e.k:=⟨_,rfl⟩;rw[←hi] at hcl hfr hlast hkeep;have HC:=ae hc;have HI:=ae hi;obtain⟨x,hx⟩:=sw l;rw[hx] at hcl hlast hkeep;have HL:=ae hlast;have HK:=ae hkeep;clear hl ht hne he hnd hlast hkeep hc hnn hi hx;unfold dp;go_enter Tryz.func133,Tryz.ntmps133
 go_wp2_with (go_at_call 169;refine(wX seed e.k db tb n _ h1 hk HC.out hp hn).mono ?_;rintro r w' ⟨rfl,rfl⟩;rw[←HI.out])
 go_end0
 exact⟨rfl,HL.out,HK.out⟩
theorem u0 (db:Nat) (D:DM ByteArray) (w:World) (h:bu dty w db D) (hy:D.aW=[]):
  Calls Tryz.prog 130 #[dp db] w fun r w'=>r=.returned (.tuple #[])∧w=w':=by
 have hm:mv D=false:=by unfold mv;rw[hy];rfl
 have H:=ae h;clear h hy;unfold dp;go_enter Tryz.func130,Tryz.ntmps130
 go_wp2_with fail
 refine(iC db D _ H.out).mono ?_;rintro r w' ⟨rfl,rfl⟩;rw[hm];clear hm;go_wp2
 exact gH (kz rfl _ _ _) rfl ⟨rfl,rfl⟩
structure Pass (w wr:World) (db:Nat) (D:DM ByteArray) (k j:Nat):Prop where
 i:bu dty wr db { D with cur:=j }
 kp:af [db] w wr
 s:skip D.old (10-k) j=skip D.old 10 D.cur
 le:j≤D.old.length
theorem iY {w wr:World} {db:Nat} {D:DM ByteArray} {k j:Nat} (h:Pass w wr db D k j) (n:Nat):Pass w (wr.drewN n) db D k j:=⟨h.i.bY (fun _ _=>rfl),h.kp.drewN n,h.s,h.le⟩
def ly (l:Option (List (DE ByteArray))):Bool:=match l with|some (_::_)=>true|_=>false
def sO (l:Option (List (DE ByteArray))):Bool:=match l with|some []=>true|_=>false
def gl (D:DM ByteArray) (k j:Nat):Bool:=decide (k<10) && sO D.old[j]?
set_option maxRecDepth 100000 in
theorem sq (db:Nat) (D:DM ByteArray) (w:World) (hwf:D.WF) (h:bu dty w db D) (hy:D.aW≠[]):
  Calls Tryz.prog 130 #[dp db] w fun r w'=>r=.returned (.tuple #[])∧bu dty w' db D.step∧af (D.blocks db) w w':=by
 have hm:mv D=true:=by unfold mv;cases hd:D.aW with|nil=>exact absurd hd hy|cons=>rfl
 have hon:D.old≠[]:=fun e=>hy (hwf.none e)
 have hlt:=hwf.lt hy;have vC:=h.bo;obtain⟨n,hn⟩:∃ n,n=D.old.length:=⟨_,rfl⟩;have HN:=ae hn;rw[←hn] at hlt vC;have HW:=ae hwf;have HY:=ae hy;have D5:=ae hon;have H:=ae h;clear h hy hon hwf hn;unfold dp;go_enter Tryz.func130,Tryz.ntmps130
 go_wp2_with fail
 refine(iC db D _ H.out).mono ?_;rintro r w' ⟨rfl,rfl⟩;rw[hm];clear hm;go_wp2_with fail
 go_loopw [2] (fun t wr=>∃ (k j:Nat),t=.int .i64 (k:Int)∧k≤10∧Hid (Pass w wr db D k j)) (fun t _=>10-(intOf t).toNat)
 case atStart=>exact⟨0,D.cur,rfl,by omega,ae ⟨H.out,af.refl _ _,rfl,by rw[←HN.out];omega⟩⟩
 case round=>
  obtain⟨k,j,rfl,hk,HP⟩:=hrel;have c1:=HP.out.i.c1;have c2:=HP.out.i.c2;have c3:=HP.out.i.c3;have hle:=HP.out.le;rw[eQ D5.out,←HN.out] at c1;rw[←HN.out] at hle;simp only at c3
  go_upto_region 2 with(fail)
  go_cut [34] (fun t wx=>t=.bool (gl D k j)∧∃ q,wx=wr.drewN q)
  case first=>as_aux_lemma=>
   by_cases hk10:k=10
   ·subst hk10;have hd:decide (((10:Nat):Int)<10)=false:=rfl;have HB:=ae (show gl D 10 j=false by simp[gl]);go_quiet (fail)
    go_wp2_with fail
    go_meet;exact⟨by rw[HB.out],_,rfl⟩
   ·have hd:(k:Int)<10:=by omega
    by_cases hj:j<n
    ·have hjj:(j:Int)<(n:Int):=by omega
     have hj0:(0:Int)≤(j:Int):=by omega
     obtain⟨l,hl⟩:∃ l,D.old[j]?=some l:=⟨_,ag (by rw[←HN.out];exact hj)⟩;have hcl:=HP.out.i.ho.cell hl;simp only at hcl
     cases l with
     | nil=>
      have HB:=ae (show gl D k j=true by unfold gl;rw[hl];simp[sO];omega);unfold ptr at hcl;clear hl;go_quiet (fail)
      go_wp2_with fail
      go_meet;exact⟨by rw[HB.out],_,rfl⟩
     | cons e l=>
      have HB:=ae (show gl D k j=false by unfold gl;rw[hl];simp[sO]);unfold ptr at hcl;clear hl;go_quiet (fail)
      go_wp2_with fail
      go_meet;exact⟨by rw[HB.out],_,rfl⟩
    ·obtain rfl:j=n:=by omega
     have HB:=ae (show gl D k j=false by unfold gl;rw[bR (by rw[←HN.out];exact aq _)];simp[sO]);have hjj:decide ((j:Int)<(j:Int))=false:=by simp
     go_quiet (fail)
     go_wp2_with fail
     go_meet;exact⟨by rw[HB.out],_,rfl⟩
  case rest=>
   obtain⟨rfl,q,rfl⟩:=hcut;have jK:=ae (iY HP.out q);clear HP c1 c2 c3;generalize wr.drewN q=W at jK
   have c1:=jK.out.i.c1;have c3:=jK.out.i.c3;have f3:=jK.out.i.free 3;rw[eQ D5.out] at c1;simp only[←HN.out] at c1 c3
   cases hb:gl D k j with
   | true=>
    have hpb:k<10∧D.old[j]?=some []:=by
     unfold gl sO at hb;simp only[cQ,dr] at hb;refine⟨hb.1,?_⟩;have h2:=hb.2
     split at h2
     ·assumption
     ·cases h2
    obtain⟨hk2,yS⟩:=hpb;have hjl:j<n:=by rw[HN.out];exact(au.1 yS).1
    have HG:=ae yS;clear hb yS;go_wp2_with fail
    go_roundw
    case rel=>
     refine⟨k+1,j+1,by go_num,by omega,ae ⟨?_,(jK.out.kp.setCell (p:=⟨db,3,none⟩) (.inl (by simp)) _),?_,by rw[←HN.out];omega⟩⟩
     ·have:=BS jK.out.i (j+1);rw[show((j+1:Nat):Int)=(j:Int)+1 from rfl] at this;exact this
     ·rw[←jK.out.s,show 10-k=(10-(k+1))+1 by omega]
      conv=>rhs;unfold skip
      rw[HG.out]
    case measure=>simp[intOf];omega
   | false=>
    have hj:j=skip D.old 10 D.cur:=by
     rw[←jK.out.s]
     by_cases hk2:k<10
     ·rw[show 10-k=(10-(k+1))+1 by omega];unfold skip;unfold gl at hb;rw[show decide (k<10)=true by simpa using hk2,qh] at hb
      cases ho:D.old[j]? with
      | none=>rfl
      | some l=>
       rw[ho] at hb
       cases l with
       | nil=>cases hb
       | cons e l=>rfl
     ·rw[show 10-k=0 by omega];rfl
    have HJ:=ae hj;clear hb hj;have hjle:j≤n:=by have:=jK.out.le;rw[←HN.out] at this;exact this
    go_upto_region 5 with(fail)
    go_cut [66] (fun t wx=>t=.bool (ly D.old[j]?)∧∃ q,wx=W.drewN q)
    case first=>as_aux_lemma=>
     by_cases hj:j<n
     ·have hjj:(j:Int)<(n:Int):=by omega
      have hj0:(0:Int)≤(j:Int):=by omega
      obtain⟨l,hl⟩:∃ l,D.old[j]?=some l:=⟨_,ag (by rw[←HN.out];exact hj)⟩;have hcl:=jK.out.i.ho.cell hl;simp only at hcl
      cases l with
      | nil=>
       have HB:=ae (show ly D.old[j]?=false by rw[hl];rfl);unfold ptr at hcl;clear hl;go_quiet (fail)
       go_wp2_with fail
       go_meet;exact⟨by rw[HB.out],_,rfl⟩
      | cons e l=>
       have HB:=ae (show ly D.old[j]?=true by rw[hl];rfl);unfold ptr at hcl;clear hl;go_quiet (fail)
       go_wp2_with fail
       go_meet;exact⟨by rw[HB.out],_,rfl⟩
     ·obtain rfl:j=n:=by omega
      have HB:=ae (show ly D.old[j]?=false by rw[bR (by rw[←HN.out];exact aq _)];rfl);have hjj:decide ((j:Int)<(j:Int))=false:=by simp
      go_quiet (fail)
      go_wp2_with fail
      go_meet;exact⟨by rw[HB.out],_,rfl⟩
    case rest=>
     obtain⟨rfl,q,rfl⟩:=hcut;have tk:=ae (iY jK.out q);clear jK c1 c3 f3;generalize W.drewN q=W3 at tk
     go_upto_if 66 with(fail)
     go_cut [] (fun wx=>Hid (bu dty wx db D.dV∧af (D.blocks db) w wx))
     case first=>as_aux_lemma=>
      have c1:=tk.out.i.c1;have c2:=tk.out.i.c2;have c3:=tk.out.i.c3;have f3:=tk.out.i.free 3;rw[eQ D5.out] at c1;simp only[←HN.out] at c1 c2 c3
      cases hb:ly D.old[j]? with
      | false=>
       have he:∀ e l,D.old[j]?≠some (e::l):=by intro e l he;rw[he] at hb;cases hb
       have hmv:D.dV={ D with cur:=j }:=by rw[DM.oK (by rw[←HJ.out];exact he),←HJ.out]
       have HM:=ae hmv;clear he hb c1 c2 c3 f3 hmv;go_wp2_with fail
       go_meet;exact ae ⟨by rw[HM.out];exact tk.out.i,tk.out.kp.mono (fun b hb=>by simp at hb;subst hb;simp[DM.blocks])⟩
      | true=>
       obtain⟨e,l,hel⟩:∃ e l,D.old[j]?=some (e::l):=by
        unfold ly at hb
        split at hb
        ·exact⟨_,_,by assumption⟩
        ·cases hb
       have hjlt:j<n:=by rw[HN.out];exact(au.1 hel).1
       have hjj:(j:Int)<(n:Int):=by omega
       have hj0:(0:Int)≤(j:Int):=by omega
       have hcl:=tk.out.i.ho.cell hel;simp only at hcl;unfold ptr at hcl;have o8:=ae hel;clear hb hel
       go_upto_region 6 with(fail)
       go_quiet (fail)
       go_wp2_with fail
       have qL:=ae (iY tk.out nq);clear tk c1 c2 c3 f3 hcl;generalize W3.drewN nq=W4 at qL
       go_loopg [3] (e::l).length (fun g p wr=>∃ pre suf,p=ptr suf∧suf.length=g∧Hid (Mid dty W4 wr { D with cur:=j } (e::l) pre suf))
       case atStart=>exact⟨[],e::l,rfl,rfl,ae (wG qL.out.i o8.out)⟩
       case round=>
        obtain⟨pre,suf,rfl,hg,HM⟩:=hrel;have HG:=ae hg;clear hg
        cases suf with
        | nil=>
         have hpre:pre=e::l:=by have:=HM.out.eq;simp at this;exact this.symm
         subst hpre;have hhd:=oL qL.out.i HY.out o8.out HM.out;have hrow:=xO qL.out.i HY.out o8.out HM.out;have hlt':D.cur≤j:=by rw[HJ.out];exact xL _ _ _
         have Dm:({ D with cur:=j }:DM ByteArray).WF:=⟨HW.out.keys,HW.out.nc,HW.out.ox,fun i hi=>by
          by_cases hc:i<D.cur
          ·exact HW.out.gone i hc
          ·exact qm D.old 10 D.cur i (by omega) (by rw[←HJ.out];exact hi),fun hh=>absurd hh HY.out,HW.out.none,HW.out.n,fun _=>by rw[HN.out] at hjlt;exact hjlt⟩
         have hsk:skip D.old 10 j=j:=by unfold skip;rw[o8.out]
         have hlast:=Bn qL.out.i Dm HY.out o8.out (by simp) HM.out hsk
         have hmv:({ D with cur:=j }:DM ByteArray).dV=D.dV:=by rw[DM.ju (D:=D) (by rw[←HJ.out];exact o8.out),DM.ju (D:={ D with cur:=j }) (e:=e) (l:=l) (by simp only[hsk];exact o8.out)];simp only[hsk,←HJ.out]
         rw[hmv] at hlast;simp only at hlast hrow;have xw:=ae hlast;have d1:wr.cell? ⟨db,1,none⟩=some (.slice (some ⟨D.ob,0,none⟩) n n):=by rw[ah hhd,HN.out];simp only[lq];rw[eQ D5.out];rfl
         have d3:wr.cell? ⟨db,3,none⟩=some (.int .i64 (j:Int)):=by rw[ah hhd];rfl
         have f3:wr.frozen? ⟨db,3,none⟩=false:=bC hhd 3;have fo:wr.frozen? ⟨D.ob,j,none⟩=false:=bC hrow j;have co:∃ v,wr.cell? ⟨D.ob,j,none⟩=some v:=⟨ptr (e::l),by rw[ah hrow,bX,bK,o8.out];rfl⟩;obtain⟨cv,co⟩:=co;have hne:D.ob≠db:=fun e2=>(jN qL.out.i).1 (e2 ▸ gQ D5.out)
         clear hhd hrow hlast hmv hsk Dm hlt';unfold ptr;go_wp2_with fail
         go_still_tail 9,(by kernel_rfl)
         go_wp2_with fail
         go_meet;refine ae ⟨xw.out.1.bY (fun _ _=>rfl),?_⟩;exact(qL.out.kp.mono (fun b hb=>by simp at hb;subst hb;simp[DM.blocks])).trans (xw.out.2.drew)
        | cons e2 r=>
         have hhd:=oL qL.out.i HY.out o8.out HM.out;have hch:=HM.out.ch.1;obtain⟨q2,hq2⟩:=sw r;have hnx:wr.cell? ⟨e2.b,2,none⟩=some (.pointer q2):=by rw[←hq2];exact jM hch
         have hd2:wr.cell? ⟨db,2,none⟩=some (fJ D.yb D.aW):=by rw[ah hhd];rfl
         have hd0:wr.cell? ⟨db,0,none⟩=some (.int .u64 D.seed):=by rw[ah hhd];rfl
         have HD0:=ae hd0;have zB:=ae hch;have I7:=ae hq2;clear hhd hch hd0 hq2
         have hks:e2.k.size≤maxLen:=qL.out.i.ks e2 (by
          have:e2∈e::l:=by rw[HM.out.eq];simp
          exact bh _ (dM.2 ⟨_,aB o8.out,this⟩))
         have MA:=ae hks;clear hks;unfold ptr;go_wp2_with fail
         rw[←lF (gF D.seed pre D.aW) D.yb];obtain⟨hb1,hb2,hb3⟩:=ri qL.out.i HY.out o8.out HM.out;refine(xg D.seed db D.yb (pre.foldl (gZ D.seed) D.aW) e2 (ptr r) _ qL.out.i.sd MA.out HD0.out HM.out.y hb3 (by rw[gF];have:=qL.out.i.by_;simp only at this;omega) zB.out hb1).mono ?_;clear hb1 hb2 hb3;rintro r2 w2 ⟨rfl,ht,hk2⟩;have D6:=ae (yK qL.out.i HY.out o8.out HM.out ht hk2);clear ht hk2;go_wp2_with fail
         go_roundg r.length
         case measure=>have:=HG.out;simp at this;omega
         case rel=>exact⟨pre++[e2],r,I7.out.symm,rfl,D6⟩
     case rest=>
      have HC:=ae (show bu dty wc db D.dV∧af (D.blocks db) w wc from hcut);clear hcut tk;obtain⟨m1,m2,m3,_,_,_,_,_,m9,_,m11⟩:=DM.jn HW.out HY.out;have Db:D.dV.aW≠[]:=(DM.lM HW.out HY.out db).2;have hstep:D.step=D.dV.nG:=by unfold DM.step;rw[aJ HY.out]
      rw[←HN.out] at m2 m9;have mon:D.dV.old≠[]:=by intro e;rw[e] at m2;simp at m2;omega
      generalize D.dV=M at HC m2 m9 Db mon hstep
      have c1:=HC.out.1.c1;have c2:=HC.out.1.c2;have c3:=HC.out.1.c3;have f1:=HC.out.1.free 1;have f2:=HC.out.1.free 2;have f3:=HC.out.1.free 3;rw[eQ mon,m2] at c1;obtain⟨tv,qj⟩:∃ tv,tv=fJ M.yb M.aW:=⟨_,rfl⟩;rw[eQ Db] at qj;have Vs:=ae qj;have c2':wc.cell? ⟨db,2,none⟩=some (.slice (some ⟨M.yb,0,none⟩) M.aW.length M.aW.length):=by rw[c2,eQ Db]
      have hyl:=HC.out.1.by_;clear c2 qj Vs;generalize PC:M.cur=j2 at c3
      generalize BG:M.aW.length=n2 at c2' hyl
      have PR:=ae Db;have HST:=ae hstep;have D6:=ae m2;have PY:=ae PC;have Vo:=ae BG;clear Db hstep m1 m2 m3 m11 PC BG mon
      by_cases sH:j2=n
      ·subst sH;go_wp2_with fail
       go_quiet (fail)
       go_wp2_with fail
       go_end0
       refine⟨rfl,?_,?_⟩
       ·rw[HST.out];unfold DM.nG;rw[aQ (by rw[PY.out,D6.out])];have h5:=yi (HC.out.1.bY (w':=wc.drewN nq) (fun _ _=>rfl)) PR.out;rw[eQ PR.out,Vo.out] at h5;exact h5
       ·exact(((HC.out.2.drewN nq).setCell (p:=⟨db,1,none⟩) (.inl (by simp[DM.blocks])) _).setCell (p:=⟨db,2,none⟩) (.inl (by simp[DM.blocks])) _).setCell (p:=⟨db,3,none⟩) (.inl (by simp[DM.blocks])) _
      ·have hne:((j2:Int) == (n:Int))=false:=by simp;omega
       go_wp2_with fail
       go_quiet (fail)
       go_wp2_with fail
       go_end0
       refine⟨rfl,?_,HC.out.2.drewN nq⟩;rw[HST.out];unfold DM.nG;rw[aJ (by rw[PY.out,D6.out];exact sH)];exact HC.out.1.bY (fun _ _=>rfl)
theorem sr (db:Nat) (D:DM ByteArray) (w:World) (hwf:D.WF) (h:bu dty w db D):
  Calls Tryz.prog 130 #[dp db] w fun r w'=>r=.returned (.tuple #[])∧bu dty w' db D.step∧af (D.blocks db) w w':=by
 by_cases hy:D.aW=[]
 ·refine(u0 db D w h hy).mono ?_;rintro r w' ⟨rfl,rfl⟩;exact⟨rfl,by unfold DM.step;rw[aQ hy];exact h,af.refl _ _⟩
 ·exact sq db D w hwf h hy
end ks.sd
namespace ks
variable {α:Type} {ty:DTy α}
section
variable {w w2:World} {db:Nat} {D:DM α} {k:ByteArray}
theorem mD:D.ln ty k=none↔D.find k=none:=by
 unfold DM.ln DM.find
 cases h:fj ty D.seed D.ob D.old k with
 | none=>rw[nj.1 h];exact nj
 | some p=>
  have:=zH (ty:=ty) (seed:=D.seed) (tb:=D.ob) (t:=D.old) (k:=k);rw[h] at this
  cases h2:fX D.seed D.old k with
  | none=>rw[h2] at this;cases this
  | some e=>simp
theorem tH (h:bu ty w db D) {p:Addr} (hp:D.ln ty k=some p):
  ∃ e r,D.find k=some e∧w.heap[e.b]?=some (gG ty e (ptr r))∧w.cell? p=some (ptr (e::r))∧p.block∈D.blocks db∧e.b∈D.blocks db:=by
 unfold DM.ln at hp
 cases h1:fj ty D.seed D.ob D.old k with
 | some q=>
  rw[h1] at hp;obtain rfl:q=p:=by simpa using hp
  obtain⟨e,r,a1,a2,a3,a4,a5⟩:=h.ho.at (sB h.nd) h1;exact⟨e,r,by unfold DM.find;rw[a1];rfl,a2,a3,bO _ (bh _ a4),bO _ (bh _ a5)⟩
 | none=>
  rw[h1] at hp;have hp2:fj ty D.seed D.yb D.aW k=some p:=by simpa using hp
  obtain⟨e,r,a1,a2,a3,a4,a5⟩:=h.hy.at (vu h.nd) hp2;exact⟨e,r,by unfold DM.find;rw[nj.1 h1,a1];rfl,a2,a3,bO _ (bA _ a4),bO _ (bA _ a5)⟩
theorem tZ (h:bu ty w db D) (hwf:D.WF) {e:DE α} (hf:D.find k=some e) {v:α} {x y:Value} (h1:ty.pv e.v=[x]) (h2:ty.pv v=[y]) (tb nb:Nat):
  bu ty (w.setCell ⟨e.b,1,none⟩ y) db (D.put k v tb nb):=by
 have hall:∃ e∈D.all,e.k=k:=by rw[DM.find_eq hwf] at hf;exact⟨e,fL hf⟩
 have hfo:=(DM.Hr hwf v tb nb hall)
 have hks:∀ z∈(D.put k v tb nb).all,z.k.size≤maxLen:=by intro z hz;rw[hfo.2.1] at hz;obtain⟨z2,hz2,rfl⟩:=aV.1 hz;rw[F5];exact h.ks z2 hz2
 have hbl:=DM.mA v tb nb db (D:=D) (k:=k) (by rw[hf];rfl);have hnd:((D.put k v tb nb).blocks db).Nodup:=by rw[hbl];exact h.nd
 have hn:=hfo.2.2;unfold DM.find at hf;unfold DM.put at hks hnd hn ⊢
 cases ho:fX D.seed D.old k with
 | some e'=>
  rw[ho] at hf;obtain rfl:e'=e:=by simpa using hf
  simp only[ho,Option.isSome_some,kY] at hks hnd hn ⊢
  have hm:e'.b∈cg D.ob D.old:=by
   unfold fX at ho
   cases hl:D.old[dQ D.seed D.old.length k]? with
   | none=>rw[hl] at ho;cases ho
   | some l=>rw[hl] at ho;exact gW (aB hl) (fL (by simpa using ho)).1
  have hne:db≠e'.b:=fun e2=>(jN h).1 (e2 ▸ hm)
  refine⟨?_,h.ho.put (sB h.nd) ho h1 h2,h.hy.bY (fun b hb=>aT _ (fun e2=>kB h hm (by have e3:b=e'.b:=e2;rw[←e3];exact hb))),hnd,h.sd,hks,?_,h.by_,h.bn⟩
  ·rw[aT _ hne,h.hd];unfold lq;simp only;rw[lF (t:=fR D.seed D.old k v) (s:=D.old) (by simp[fR])]
  ·show(fR D.seed D.old k v).length≤_
   rw[show(fR D.seed D.old k v).length=D.old.length by simp[fR]];exact h.bo
 | none=>
  rw[ho] at hf;have hy:fX D.seed D.aW k=some e:=by simpa using hf
  simp only[ho,hy,Option.isSome_none,Option.isSome_some,Bool.false_eq_true,sG,kY] at hks hnd hn ⊢
  have hm:e.b∈cg D.yb D.aW:=by
   unfold fX at hy
   cases hl:D.aW[dQ D.seed D.aW.length k]? with
   | none=>rw[hl] at hy;cases hy
   | some l=>rw[hl] at hy;exact gW (aB hl) (fL (by simpa using hy)).1
  have hne:db≠e.b:=fun e2=>(jN h).2 (e2 ▸ hm)
  refine⟨?_,h.ho.bY (fun b hb=>aT _ (fun e2=>kB h hb (by have e3:b=e.b:=e2;rw[e3];exact hm))),h.hy.put (vu h.nd) hy h1 h2,hnd,h.sd,hks,h.bo,?_,h.bn⟩
  ·rw[aT _ hne,h.hd];unfold lq;simp only;rw[lF (t:=fR D.seed D.aW k v) (s:=D.aW) (by simp[fR])]
  ·show(fR D.seed D.aW k v).length≤_
   rw[show(fR D.seed D.aW k v).length=D.aW.length by simp[fR]];exact h.by_
theorem WD (n:Nat):((List.replicate n ([]:List (DE α))).map ptr)=List.replicate n (.pointer none):=by rw[oZ];rfl
theorem Gl (n tb:Nat) (w:World) (hw:w.heap[tb]?=some (.cells (List.replicate n (.pointer none)).toArray ty.p (0,0))):TabIs ty w tb (List.replicate n ([]:List (DE α))):=by
 refine⟨fun _=>by rw[WD];exact hw,fun l hl=>?_⟩;obtain⟨_,rfl⟩:=List.mem_replicate.1 hl
 trivial
theorem sM (h:bu ty w db D) (ho:D.old=[]) (hy:D.aW=[]):
  bu ty ((w.alloc (.cells (List.replicate 4 (.pointer none)).toArray ty.p (0,0))).setCell ⟨db,1,none⟩ (.slice (some ⟨w.heap.size,0,none⟩) 4 4)) db (D.grown w.heap.size):=by
 have hg:D.grown w.heap.size={ D with ob:=w.heap.size,old:=List.replicate 4 [] }:=by unfold DM.grown;rw[aQ ho]
 have hdb:=hlt h.hd;have hne:w.heap.size≠db:=by omega
 rw[hg];refine⟨?_,Gl 4 _ _ ?_,?_,?_,h.sd,?_,by simp,h.by_,h.bn⟩
 ·have:=alloc_old (.cells (List.replicate 4 (.pointer none)).toArray ty.p (0,0)) h.hd;unfold lq at this ⊢;rw[aX this];rw[ho];rfl
 ·rw[aT (b:=w.heap.size) _ hne];exact aG _ _
 ·simp only[hy];exact TabIs.nil _ _
 ·unfold DM.blocks;simp only[jS w.heap.size 4 (by decide),hy,lx];simp;omega
 ·intro e he;unfold DM.all at he;simp[hy] at he
theorem ry (h:bu ty w db D) (ho:D.old≠[]) (hy:D.aW=[]) (hl:D.old.length≤D.n):
  bu ty ((w.alloc (.cells (List.replicate (2*D.old.length) (.pointer none)).toArray ty.p (0,0))).setCell ⟨db,2,none⟩ (.slice (some ⟨w.heap.size,0,none⟩) (2*D.old.length) (2*D.old.length))) db (D.grown w.heap.size):=by
 have hg:D.grown w.heap.size={ D with yb:=w.heap.size,aW:=List.replicate (2*D.old.length) [] }:=by unfold DM.grown;rw[aJ ho,aQ ⟨hy,hl⟩]
 have hdb:=hlt h.hd;have hne:w.heap.size≠db:=by omega
 have hp:0<D.old.length:=bZ.2 ho;have hbn:=h.bn;rw[hg];refine⟨?_,?_,Gl _ _ _ ?_,?_,h.sd,?_,h.bo,by simp;omega,h.bn⟩
 ·have:=alloc_old (.cells (List.replicate (2*D.old.length) (.pointer none)).toArray ty.p (0,0)) h.hd;unfold lq at this ⊢;rw[aX this];simp only;rw[eQ (t:=List.replicate (2*D.old.length) []) (by intro e;have:=congrArg List.length e;simp at this;omega)];simp
 ·refine h.ho.bY (fun b hb=>?_);have hb2:=h.ho.lt b hb;rw[aT (b:=b) _ (fun e2=>(jN h).1 (by have e3:b=db:=e2;rw[←e3];exact hb)),Below.heap_alloc _ _ _ hb2]
 ·rw[aT (b:=w.heap.size) _ hne];exact aG _ _
 ·unfold DM.blocks;simp only[jS w.heap.size (2*D.old.length) (by omega)];have:=h.nd;unfold DM.blocks at this;rw[hy,lx,cZ] at this;rw[←List.cons_append];refine bQ.2 ⟨this,by simp,fun a ha b hb=>?_⟩;simp at hb;subst hb;have:=h.lt a (by unfold DM.blocks;rw[hy,lx,cZ];exact ha);omega
 ·intro e he;refine h.ks e ?_;unfold DM.all at he ⊢;simp only at he;rw[List.flatten_replicate_nil,cZ] at he;exact bh _ he
theorem uK (h1:D.old≠[]) (h2:D.aW≠[]∨D.n<D.old.length) (tb:Nat):D.grown tb=D:=by unfold DM.grown;rw[aJ h1,aJ (fun hc=>by rcases h2 with h2|h2;exact h2 hc.1;omega)]
def DM.fU (D:DM α):Nat:=if D.aW=[] then D.ob else D.yb
def DM.tgt (D:DM α):Tab α:=if D.aW=[] then D.old else D.aW
theorem Eg (h:bu ty w db D):TabIs ty w D.fU D.tgt:=by
 unfold DM.fU DM.tgt;split
 ·exact h.ho
 ·exact h.hy
theorem oz (ho:D.old≠[]):D.tgt≠[]:=by
 unfold DM.tgt;split
 ·exact ho
 ·assumption
theorem nU:∀ b∈cg D.fU D.tgt,b∈D.blocks db:=by
 intro b hb;unfold DM.fU DM.tgt at hb;unfold DM.blocks
 split at hb
 ·exact bO _ (bh _ hb)
 ·exact bO _ (bA _ hb)
theorem wj (h:bu ty w db D):(cg D.fU D.tgt).Nodup:=by
 unfold DM.fU DM.tgt;split
 ·exact sB h.nd
 ·exact vu h.nd
theorem AU (h:bu ty w db D):D.tgt.length≤17592186044416:=by
 unfold DM.tgt;split
 ·exact h.bo
 ·exact h.by_
theorem wQ (h:bu ty w db D) (hwf:D.WF) (ho:D.old≠[]) {e:DE α} (hf:∀ x∈D.all,x.k≠e.k) (hb:e.b∉D.blocks db) (hk:e.k.size≤maxLen) (hn:D.n<8796093022208)
  (ht:TabIs ty w2 D.fU (gZ D.seed D.tgt e)) (hkp:af [e.b,D.fU] w w2):
  bu ty (w2.setCell ⟨db,4,none⟩ (.int .i64 ((D.n+1:Nat):Int))) db (D.added e):=by
 have htb:D.fU∈cg D.fU D.tgt:=gQ (oz ho)
 have hdt:db≠D.fU:=by
  intro e2;have:=(bT.1 h.nd).1;rw[e2] at this;unfold DM.fU at this
  split at this
  ·exact this (bh _ (gQ ho))
  ·rename_i hy;exact this (bA _ (gQ hy))
 have hde:db≠e.b:=fun e2=>hb (e2 ▸ by simp[DM.blocks])
 have hhd:w2.heap[db]?=some (lq ty D):=hkp.get h.hd (by simp;exact⟨hde,hdt⟩);obtain⟨a1,a2,a3,a4⟩:=DM.sY hwf ho e hf
 have hbl:((D.added e).blocks db).Perm (e.b::D.blocks db):=by
  unfold DM.added;split
  ·unfold DM.blocks;simp only;exact(List.Perm.cons db ((ns _ _ ho _).append_right _)).trans (.swap _ _ _)
  ·rename_i hy
   unfold DM.blocks;simp only;exact((List.Perm.cons db ((ns _ _ hy _).append_left _)).trans (List.Perm.cons db jh)).trans (.swap _ _ _)
 have hset:∀ b,b≠db→(w2.setCell ⟨db,4,none⟩ (.int .i64 ((D.n+1:Nat):Int))).heap[b]?=w2.heap[b]?:=fun b hb2=>aT _ hb2
 have hnew:∀ b∈cg D.fU (gZ D.seed D.tgt e),b≠db:=by
  intro b hb2
  rcases bM.1 ((ns D.seed e (oz ho) D.fU).mem_iff.1 hb2) with rfl|h3
  ·exact fun e2=>hde e2.symm
  ·have:db∉cg D.fU D.tgt:=by
    unfold DM.fU DM.tgt;split
    ·exact(jN h).1
    ·exact(jN h).2
   exact fun e2=>this (e2 ▸ h3)
 have hks:∀ x∈(D.added e).all,x.k.size≤maxLen:=by
  intro x hx
  rcases bM.1 (a2.mem_iff.1 hx) with rfl|h3
  ·exact hk
  ·exact h.ks x h3
 have ht2:=ht.bY (fun b hb2=>hset b (hnew b hb2))
 by_cases hy:D.aW=[]
 ·have he1:D.added e={ D with old:=gZ D.seed D.old e,n:=D.n+1 }:=by unfold DM.added;rw[aQ hy]
  have h1:D.fU=D.ob:=by unfold DM.fU;rw[aQ hy]
  have h2:D.tgt=D.old:=by unfold DM.tgt;rw[aQ hy]
  rw[h1,h2] at ht2;refine⟨?_,?_,?_,hbl.nodup_iff.2 (bT.2 ⟨hb,h.nd⟩),by rw[a3];exact h.sd,hks,?_,?_,?_⟩
  ·rw[he1];unfold lq at hhd ⊢;rw[aX hhd];simp only;rw[lF (jo D.seed D.old e)];rfl
  ·rw[he1];exact ht2
  ·rw[he1];simp only[hy];exact TabIs.nil _ _
  ·rw[he1];simp only[jo];exact h.bo
  ·rw[he1];exact h.by_
  ·rw[a4];omega
 ·have he1:D.added e={ D with aW:=gZ D.seed D.aW e,n:=D.n+1 }:=by unfold DM.added;rw[aJ hy]
  have h1:D.fU=D.yb:=by unfold DM.fU;rw[aJ hy]
  have h2:D.tgt=D.aW:=by unfold DM.tgt;rw[aJ hy]
  rw[h1,h2] at ht2;rw[h1] at hkp;refine⟨?_,?_,?_,hbl.nodup_iff.2 (bT.2 ⟨hb,h.nd⟩),by rw[a3];exact h.sd,hks,?_,?_,?_⟩
  ·rw[he1];unfold lq at hhd ⊢;rw[aX hhd];simp only;rw[lF (jo D.seed D.aW e)];rfl
  ·rw[he1];refine h.ho.bY (fun b hb2=>?_);rw[hset b (fun e2=>(jN h).1 (e2 ▸ hb2))];refine hkp.block b (h.ho.lt b hb2) ?_;simp only[bM,dU,sy,not_or];exact⟨fun e2=>hb (e2 ▸ bO _ (bh _ hb2)),fun e2=>kB h hb2 (e2 ▸ gQ hy)⟩
  ·rw[he1];exact ht2
  ·rw[he1];exact h.bo
  ·rw[he1];simp only[jo];exact h.by_
  ·rw[a4];omega
end
end ks
end Go.Proofs.YthpdlidbaojlbaaGreatDoor
