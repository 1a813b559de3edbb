/- dict: two rows of texts that grow side by side. -/
import Derived.Test.YthpdlidbaojlbaaGreatDoorQ14
import Derived.Test.YthpdlidbaojlbaaGreatDoorQ13
set_option linter.unusedVariables false
set_option linter.unusedSimpArgs false
set_option maxHeartbeats 4000000
open Go.ChangeShapes Go.WideShapes Go.RowKit
namespace Go.Proofs.YthpdlidbaojlbaaGreatDoor
namespace ks.sd
theorem sC (c:Nat):madeCells (Value.cells (.pointer none)) c=(List.replicate c (.pointer none)).toArray:=by
 unfold madeCells
 apply wU
 ·simp
 ·intro i h1 h2;simp[Value.cells,nA]
theorem yQ:(Tryz.prog.info? 217).map (fun i=>(i.zero,i.size,i.bytes))=some (some (.pointer none),1,8):=by kernel_rfl
theorem run_mk (w:World) (c:Int) (n:Nat) (hc:c=n) (hn:n≤35184372088832):
  (Instr.makeSlice 212 (.int .i64 c) (.int .i64 c)).run Tryz.prog w=.ok (.slice (some ⟨w.heap.size,0,none⟩) n n) (w.alloc (.cells (List.replicate n (.pointer none)).toArray 217)):=by
 obtain⟨i,hi,hz,hs,hb⟩:=cF yQ;subst hc;have:=run_make (P:=Tryz.prog) w 212 217 i _ Tryz.underlying212 hi hz .i64 .i64 (n:Int) (n:Int) (by omega) (nF _) (by rw[hb];omega) (by omega);rw[hs,bB,Int.toNat_natCast,sC] at this;exact this
theorem fV {w:World} {db:Nat} {D:DM ByteArray} (h:bu dty w db D) (n:Nat):bu dty (w.drewN n) db D:=h.bY (fun _ _=>rfl)
theorem lL (E:DM ByteArray) (db:Nat) (w:World) (b:Bool) (h:bu dty w db E) (hb:mv E=b):
  Calls Tryz.prog 132 #[dp db] w fun e w'=>e=.returned (.bool b)∧w'=w:=
 (iC db E w h).mono fun e w' ⟨h1,h2⟩=>⟨by rw[←hb];exact h1,h2.symm⟩
def Dx (o:Option (DE ByteArray)):Value:=match o with|some e=>.tuple #[.string e.v,.bool true]|none=>.tuple #[.string ByteArray.empty,.bool false]
theorem Lx (db:Nat) (D:DM ByteArray) (k:ByteArray) (w:World) (hwf:D.WF) (h:bu dty w db D) (hk:k.size≤maxLen):
  Calls Tryz.prog 97 #[dp db,.string k] w fun r w'=>r=.returned (Dx (D.step.find k))∧bu dty w' db D.step∧af (D.blocks db) w w':=by
 have HW:=ae hwf;have H:=ae h;have HK:=ae hk;clear hwf h hk;unfold dp;go_enter Tryz.func97,Tryz.ntmps97
 go_wp2_with fail
 refine(sr db D _ HW.out H.out).mono ?_;rintro r w1 ⟨rfl,h1,hk1⟩;have H1:=ae h1;have rP:=ae hk1;clear h1 hk1;go_wp2_with fail
 refine(xj db D.step k _ H1.out HK.out).mono ?_;rintro r w2 ⟨rfl,rfl⟩;obtain⟨p,hp⟩:∃ p,p=D.step.ln dty k:=⟨_,rfl⟩;rw[←hp]
 cases p with
 | none=>
  have hf:=mD.1 hp.symm;have HF:=ae hf;clear hp hf;go_wp2_with fail
  go_ret2
  exact⟨by rw[HF.out];rfl,H1.out,rP.out⟩
 | some a=>
  obtain⟨e,r,hf,he,hc,_,_⟩:=tH H1.out hp.symm;have hv:w1.cell? ⟨e.b,1,none⟩=some (.string e.v):=by unfold gG at he;rw[ah he];rfl
  unfold ptr at hc;have HF:=ae hf;clear hp hf he;go_wp2_with fail
  go_ret2
  exact⟨by rw[HF.out];rfl,H1.out,rP.out⟩
set_option maxRecDepth 100000 in
theorem JL (db:Nat) (D:DM ByteArray) (k:ByteArray) (v:ByteArray) (w:World) (hwf:D.WF) (h:bu dty w db D) (hk:k.size≤maxLen) (hn:D.n<8796093022208):
  Calls Tryz.prog 100 #[dp db,.string k,.string v] w fun r w'=>∃ b tb nb,r=.returned (.bool b)∧bu dty w' db (D.set k v tb nb)∧af (D.blocks db) w w'∧(∀ x∈(D.set k v tb nb).blocks db,x∈D.blocks db∨w.heap.size≤x):=by
 obtain⟨hw1,hsp,hsd,hsn⟩:=DM.fE hwf;obtain⟨xb,hxb⟩:=DM.lz hwf db;obtain⟨_,hsub⟩:=qR hxb h.nd;have hstep:=sr db D w hwf h;have hset:∀ tb nb,D.set k v tb nb=D.step.put k v tb nb:=fun _ _=>rfl
 simp only[hset];rw[←hsn] at hn;generalize D.step=E at hw1 hsp hsn hsub hn hstep ⊢
 have HW1:=ae hw1;have xF:=ae hsub;have fC:=ae hstep;have HK:=ae hk;clear hwf h hset hsp hsn hsd hw1 hxb hsub hstep hk;unfold dp;go_enter Tryz.func100,Tryz.ntmps100
 go_wp2_with fail
 refine fC.out.mono ?_;rintro r w1 ⟨rfl,h1,hk1⟩;have H1:=ae h1;have rP:=ae hk1;have hsz1:=hk1.size;clear h1 hk1;go_wp2_with fail
 refine(xj db E k _ H1.out HK.out).mono ?_;rintro r w2 ⟨rfl,rfl⟩;obtain⟨p,hp⟩:∃ p,p=E.ln dty k:=⟨_,rfl⟩;rw[←hp]
 cases p with
 | some a=>
  obtain⟨e,r,hf,he,hc,_,PB⟩:=tH H1.out hp.symm;have hv:w1.cell? ⟨e.b,1,none⟩=some (.string e.v):=by unfold gG at he;rw[ah he];rfl
  have hfz:w1.frozen? ⟨e.b,1,none⟩=false:=As he 1;unfold ptr at hc;have HF:=ae hf;have Tf:=ae PB;clear hp hf he PB;go_wp2_with fail
  go_ret;refine⟨_,0,0,rfl,tZ H1.out HW1.out HF.out (v:=v) rfl rfl 0 0,(rP.out.setCell (p:=⟨e.b,1,none⟩) (.inl (xF.out _ Tf.out)) _),fun x hx=>?_⟩;rw[DM.mA v 0 0 db (by rw[HF.out];rfl)] at hx;exact .inl (xF.out x hx)
 | none=>
  have hf:=mD.1 hp.symm;have hall:∀ e∈E.all,e.k≠k:=by rw[DM.find_eq HW1.out] at hf;exact lT hf
  have rQ:=ae hall;have c1:=H1.out.c1;have c2:=H1.out.c2;have c4:=H1.out.c4;have f1:=H1.out.free 1;have f2:=H1.out.free 2;have vC:=H1.out.bo;have n1:=iJ w1 ⟨db,1,none⟩ c1;have n2:=iJ w1 ⟨db,2,none⟩ c2;have hdb:db<w1.heap.size:=hlt H1.out.hd;clear hp hf hall;obtain⟨oa,hoa⟩:=gj E.ob E.old;obtain⟨ya,hya⟩:=gj E.yb E.aW;rw[hoa] at c1;rw[hya] at c2;have O0:=ae hoa;have Mt:=ae hya;generalize hln:E.old.length=n at c1 vC
  generalize yR:E.aW.length=m at c2
  have kN:=ae hln;have HLY:=ae yR;clear hoa hya hln yR
  go_upto_block 0 with(fail)
  go_cut [] (fun wx=>∃ tb,Hid (bu dty wx db (E.grown tb)∧af [db] w1 wx∧tb∉E.blocks db∧w1.heap.size≤tb∧tb≠wx.heap.size))
  case first=>as_aux_lemma=>
   have HF:=ae (show ∀ x∈E.blocks db,x<w1.heap.size from H1.out.lt)
   by_cases ho:E.old=[]
   ·have hy:=HW1.out.none ho;have HG:=ae (sM H1.out ho hy);have hn0:n=0:=by rw[←kN.out,ho];rfl
    subst hn0;have hmk:=fun w:World=>run_mk w 4 4 rfl (by decide)
    clear ho hy;go_wp2_with fail
    go_meet;refine⟨w1.heap.size,ae ⟨by rw[←fM _ db 1 _ hdb];exact HG.out,((af.refl _ w1).setCell (p:=⟨db,1,none⟩) (.inl (by simp)) _).alloc _,fun hm=>?_,aq _,?_⟩⟩
    ·have:=HF.out _ hm;omega
    ·simp
   ·have hp:0<n:=by rw[←kN.out];exact bZ.2 ho
    have HO:=ae ho;have hnz:((n:Int) == 0)=false:=by simp;omega
    clear ho
    have hsame:∀ q,E.aW≠[]∨E.n<n→∃ tb,Hid (bu dty (w1.drewN q) db (E.grown tb)∧af [db] w1 (w1.drewN q)∧tb∉E.blocks db∧w1.heap.size≤tb∧tb≠(w1.drewN q).heap.size):=by
     intro q hc;refine⟨w1.heap.size+1,ae ⟨?_,(af.refl _ w1).drewN q,fun hm=>?_,by omega,by show w1.heap.size+1≠w1.heap.size;omega⟩⟩
     ·rw[uK HO.out (by rw[kN.out];exact hc)];exact fV H1.out q
     ·have:=HF.out _ hm;omega
    have HS:=ae hsame;clear hsame
    by_cases hy:E.aW=[]
    ·have hmv:mv E=false:=by unfold mv;rw[hy];rfl
     by_cases hle:n≤E.n
     ·have hmk:=fun w:World=>run_mk w (2*(n:Int)) (2*n) (by omega) (by omega)
      have hgeq:(n:Int)≤(E.n:Int):=by omega
      have HY:=ae hy;clear hy;go_wp2_with fail
      go_quiet ((go_at_call 132;exact dJ (lL E db _ _ (fV H1.out _) hmv)))
      obtain⟨W,hW⟩:∃ W,W=w1.drewN nq:=⟨_,rfl⟩;have H2:Hid (bu dty W db E):=ae (by rw[hW];exact fV H1.out nq);have hsz:w1.heap.size≤W.heap.size:=by rw[hW];exact aq _
      have kM:Hid (af [db] w1 W):=ae (by rw[hW];exact(af.refl _ w1).drewN nq);rw[←hW];clear hW c1 c2 c4 f1 f2 n1 n2;have c1:=H2.out.c1;have c2:=H2.out.c2;have f2:=H2.out.free 2;have n2:=iJ W ⟨db,2,none⟩ c2;have HG:=ae (ry H2.out HO.out HY.out (by rw[kN.out];exact hle));rw[kN.out] at HG;rw[O0.out] at c1;rw[Mt.out] at c2;rw[kN.out] at c1;have zJ:db<W.heap.size:=by omega
      go_wp2_with fail
      go_meet;refine⟨W.heap.size,ae ⟨?_,(kM.out.setCell (p:=⟨db,2,none⟩) (.inl (by simp)) _).alloc _,fun hm=>?_,hsz,?_⟩⟩
      ·rw[←fM _ db 2 _ zJ,←List.toArray_replicate];exact HG.out
      ·have:=HF.out _ hm;omega
      ·simp
     ·have hd:decide ((n:Int)≤(E.n:Int))=false:=by simp;omega
      have HS2:=ae (fun q=>HS.out q (.inr (by omega)));clear hy;go_wp2_with fail
      go_quiet ((go_at_call 132;exact dJ (lL E db _ _ (fV H1.out _) hmv)))
      go_wp2_with fail
      go_meet;exact HS2.out _
    ·have hmv:mv E=true:=by unfold mv;cases hd:E.aW with|nil=>exact absurd hd hy|cons=>rfl
     have HS2:=ae (fun q=>HS.out q (.inl hy));clear hy;go_wp2_with fail
     go_quiet ((go_at_call 132;exact dJ (lL E db _ _ (fV H1.out _) hmv)))
     go_wp2_with fail
     go_meet;exact HS2.out _
  case rest=>
   obtain⟨tb,HC⟩:=hcut;clear c1 c2 c4 f1 f2 n1 n2;obtain⟨g1,g2,g3,g4,g5⟩:=DM.lA HW1.out tb;have hput:=DM.mz HW1.out (k:=k) v tb wc.heap.size rQ.out;have hbl:=DM.oE HW1.out (k:=k) v (tb:=tb) (nb:=wc.heap.size) (db:=db) rQ.out H1.out.nd HC.out.2.2.1 (fun hm=>by have:=H1.out.lt _ hm;have:=HC.out.2.1.size;omega) HC.out.2.2.2.2;have Jl:=ae hbl;have MG:=ae (DM.wL HW1.out tb db);have vU:=ae hput;have hgn:(E.grown tb).n<8796093022208:=by rw[g4];exact hn
   have sK:∀ x∈(E.grown tb).all,x.k≠k:=by rw[g2];exact rQ.out
   clear hbl hput g2 g3 g4;generalize E.grown tb=G at HC vU MG g1 g5 hgn sK
   have MV:=ae g1;have GZ:=ae g5;have D7:=ae sK;have HD:=ae HC.out.1;have c1:=HD.out.c1;have c2:=HD.out.c2;have c4:=HD.out.c4;have htl:=AU HD.out;have zJ:db<wc.heap.size:=hlt HD.out.hd;have hsz2:=HC.out.2.1.size;have hw:wc.alloc (gG dty ⟨wc.heap.size,k,v⟩ (.pointer none))=wc.alloc (.cells #[.string k,.string v,.pointer none] 219):=rfl;have HW:=ae hw
   have hfin:∀ w2:World,TabIs dty w2 G.fU (gZ G.seed G.tgt ⟨wc.heap.size,k,v⟩)→af [wc.heap.size,G.fU] (wc.alloc (gG dty ⟨wc.heap.size,k,v⟩ (.pointer none))) w2→
     bu dty (w2.setCell ⟨db,4,none⟩ (.int .i64 ((G.n+1:Nat):Int))) db (E.put k v tb wc.heap.size)∧af (D.blocks db) w (w2.setCell ⟨db,4,none⟩ (.int .i64 ((G.n+1:Nat):Int)))∧(∀ x∈(E.put k v tb wc.heap.size).blocks db,x∈D.blocks db∨w.heap.size≤x)∧
     w2.cell? ⟨db,4,none⟩=some (.int .i64 G.n)∧w2.frozen? ⟨db,4,none⟩=false:=by
    intro w2 ht hk2;have PD:bu dty (wc.alloc (gG dty ⟨wc.heap.size,k,v⟩ (.pointer none))) db G:=HD.out.bY (fun b hb=>Below.heap_alloc _ _ _ (HD.out.lt b hb));have hfr:wc.heap.size∉G.blocks db:=fun hm=>by have:=HD.out.lt _ hm;omega
    have Pv:G.fU∈G.blocks db:=nU _ (gQ (oz GZ.out));refine⟨?_,?_,fun x hx=>?_,?_⟩
    ·rw[vU.out];exact wQ PD MV.out GZ.out D7.out hfr HK.out hgn ht hk2
    ·have hgb:∀ x∈G.blocks db,x∈D.blocks db∨w.heap.size≤x:=by
      intro x hx
      rcases MG.out x hx with h1|h1
      ·exact .inl (xF.out x h1)
      ·right;have:=HC.out.2.2.2.1;omega
     have k1:af (D.blocks db) w wc:=rP.out.trans (HC.out.2.1.mono (fun b hb=>by simp at hb;subst hb;simp[DM.blocks]));have k2:af (D.blocks db) w (wc.alloc (gG dty ⟨wc.heap.size,k,v⟩ (.pointer none))):=k1.alloc _;refine(k2.step hk2 (fun b hb=>?_)).setCell (p:=⟨db,4,none⟩) (.inl (by simp[DM.blocks])) _;simp only[bM,dU,sy] at hb
     rcases hb with rfl|rfl
     ·right;omega
     ·exact hgb _ Pv
    ·rcases Jl.out.2 x hx with h1|h1|h1
     ·exact .inl (xF.out x h1)
     ·right;have:=HC.out.2.2.2.1;omega
     ·right;omega
    ·have hdt:db≠G.fU:=by
      have:=(bT.1 HD.out.nd).1;intro e2;have h3:=gQ (tb:=G.fU) (oz GZ.out);unfold DM.fU DM.tgt at h3;rw[e2] at this;unfold DM.fU at this
      split at h3
      ·rename_i hy;rw[aQ hy] at this;exact this (bh _ h3)
      ·rename_i hy;rw[aJ hy] at this;exact this (bA _ h3)
     have hhd:=hk2.get PD.hd (k:=db) (by simp;exact⟨by omega,hdt⟩);exact⟨by rw[ah hhd];rfl,bC hhd 4⟩
   have gA:=ae hfin;have hnew:(wc.alloc (gG dty ⟨wc.heap.size,k,v⟩ (.pointer none))).heap[wc.heap.size]?=some (gG dty ⟨wc.heap.size,k,v⟩ (.pointer none)):=aG _ _;have Dr:(wc.heap.size::cg G.fU G.tgt).Nodup:=bT.2 ⟨fun hm=>by have:=HD.out.lt _ (nU _ hm);omega,wj HD.out⟩;have htab:TabIs dty (wc.alloc (gG dty ⟨wc.heap.size,k,v⟩ (.pointer none))) G.fU G.tgt:=(Eg HD.out).bY (fun b hb=>Below.heap_alloc _ _ _ (HD.out.lt b (nU _ hb)))
   have hc0:(wc.alloc (gG dty ⟨wc.heap.size,k,v⟩ (.pointer none))).cell? ⟨db,0,none⟩=some (.int .u64 G.seed):=by rw[ah (alloc_old _ HD.out.hd)];rfl
   have xd:=xg G.seed db G.fU G.tgt ⟨wc.heap.size,k,v⟩ (.pointer none) _ HD.out.sd HK.out hc0 htab (oz GZ.out) (by omega) hnew Dr;have pY:=ae xd;clear hfin hnew Dr htab hc0 xd hw g1 g5 sK htl Jl MG;obtain⟨Ue,qx⟩:=gj G.ob G.old;obtain⟨TM,qw⟩:=gj G.yb G.aW
   by_cases hy:G.aW=[]
   ·have hmv:mv G=false:=by unfold mv;rw[hy];rfl
    have qj:fJ G.fU G.tgt=fJ G.ob G.old:=by unfold DM.fU DM.tgt;rw[aQ hy,aQ hy]
    rw[qj,qx] at pY;rw[qx] at c1;rw[qw] at c2;clear hy qw qx qj;go_wp2_with fail
    refine(iC db G _ HD.out).mono ?_;rintro r w' ⟨rfl,rfl⟩;rw[hmv];clear hmv;go_wp2_with fail
    refine pY.out.mono ?_;rintro r w2 ⟨rfl,ht,hk2⟩;obtain⟨q1,q2,q3,q4,q5⟩:=gA.out w2 ht hk2;rw[show((G.n+1:Nat):Int)=(G.n:Int)+1 from rfl] at q1 q2;have Q1:=ae q1;have Q2:=ae q2;have Q3:=ae q3;clear ht hk2 q1 q2 q3;go_wp2_with fail
    go_ret;exact⟨_,_,_,rfl,Q1.out,Q2.out,Q3.out⟩
   ·have hmv:mv G=true:=by unfold mv;cases hd:G.aW with|nil=>exact absurd hd hy|cons=>rfl
    have qj:fJ G.fU G.tgt=fJ G.yb G.aW:=by unfold DM.fU DM.tgt;rw[aJ hy,aJ hy]
    rw[qj,qw] at pY;rw[qx] at c1;rw[qw] at c2;clear hy qw qx qj;go_wp2_with fail
    refine(iC db G _ HD.out).mono ?_;rintro r w' ⟨rfl,rfl⟩;rw[hmv];clear hmv;go_wp2_with fail
    refine pY.out.mono ?_;rintro r w2 ⟨rfl,ht,hk2⟩;obtain⟨q1,q2,q3,q4,q5⟩:=gA.out w2 ht hk2;rw[show((G.n+1:Nat):Int)=(G.n:Int)+1 from rfl] at q1 q2;have Q1:=ae q1;have Q2:=ae q2;have Q3:=ae q3;clear ht hk2 q1 q2 q3;go_wp2_with fail
    go_ret;exact⟨_,_,_,rfl,Q1.out,Q2.out,Q3.out⟩
end ks.sd
namespace jw.sd
open ks (af ae hlt ah bC alloc_old aG aX aT dp KP pZ eS DM DE bu TabIs ptr fJ lq e9)
attribute [local go_sem] Oper.semAt_some
abbrev dty:=ks.sd.dty
structure AlR {α:Type} (J:List α→eS→eS→World→Prop) (H0:eS) (W:World) (xs:List α) (m:Nat) (X:World):Prop where
 j:∃ G H,J (xs.take m) G H X∧∀ b,H b→H0 b∨W.heap.size≤b
 kp:KP (fun b=>¬H0 b) W X
theorem AlR.step {α:Type} {J:List α→eS→eS→World→Prop} {H0:eS} {W:World} {xs:List α} {m:Nat} {X Y:World} {x:α} (h:KP (fun b=>¬H0 b) W X) {G H:eS} (hH:∀ b,H b→H0 b∨W.heap.size≤b) (hx:xs[m]?=some x)
  (hr:∃ G' H',J (xs.take m++[x]) G' H' Y∧(∀ b,G' b→G b∨X.heap.size≤b)∧(∀ b,H' b→H b∨X.heap.size≤b)∧KP (fun b=>¬H b) X Y):AlR J H0 W xs (m+1) Y:=by
 obtain⟨G',H',hj,hg,hh,hk⟩:=hr;refine⟨⟨G',H',by rw[c8,hx];exact hj,fun b hb=>?_⟩,h.uU hk (fun b hl hb hc=>?_)⟩
 ·rcases hh b hb with h1|h1
  ·exact hH b h1
  ·exact .inr (aF h.size h1)
 ·rcases hH b hc with h1|h1
  ·exact hb h1
  ·omega
theorem AlR.lW {α:Type} {J:List α→eS→eS→World→Prop} {H0:eS} {W:World} {xs:List α} {m:Nat} {X Y:World} (hJ:ks.Abides J) (h:AlR J H0 W xs m X) (hk:KP (fun _=>True) X Y):AlR J H0 W xs m Y:=by obtain⟨⟨G,H,hj,hh⟩,hp⟩:=h;exact⟨⟨G,H,hJ _ _ _ _ _ hj (hk.mono (fun _ _ _=>trivial)),hh⟩,hp.trans (hk.mono (fun _ _ _=>trivial))⟩
theorem lH {α:Type} {xs:List α} {m:Nat} {x:α} (h:xs[m]?=some x):xs=xs.take m++x::xs.drop (m+1):=by obtain⟨hl1,hl2⟩:=au.1 h;rw[←hl2,←eT,eH]
theorem gj (tb:Nat) (t:List (List (DE ByteArray))):∃ a cap,fJ tb t=.slice a t.length cap∧(t≠[]→a=some ⟨tb,0,none⟩):=by
 unfold fJ;split
 ·rename_i h;subst h;exact⟨_,_,rfl,fun h=>absurd rfl h⟩
 ·exact⟨_,_,rfl,fun _=>rfl⟩
theorem BR (ob n c:Nat) (t:List (List (DE ByteArray))) (hn:n=t.length) (hc:c≤n) (h0:c<n∨t=[]):∃ a cap,(∀ W,(Instr.sliceAt 212 (fJ ob t) (some (.int .i64 (c:Int))) none none).run Tryz.prog W=.ok (.slice a (n-c) cap) W)∧(t≠[]→a=some ⟨ob,c,none⟩):=by
 have hu:Tryz.prog.underlying 212=some (.slice (Tryz.prog.elem 212)):=by kernel_rfl
 have hs:∀ W,(sizeOf (Tryz.prog.elem 212)).run Tryz.prog W=.ok 1 W:=fun W=>by kernel_rfl
 unfold fJ
 by_cases ht:t=[]
 ·subst ht;simp at hn;subst hn;obtain rfl:c=0:=by omega
  refine⟨none,0,fun W=>?_,fun h=>absurd rfl h⟩;rw[aQ rfl,lI W _ _ _ _ _ hu,pC W _ none 0 0 hu .i64 _ (by omega) (by omega),hs];unfold sliced;simp[Result.andThen]
 ·have hlt:c<n:=by rcases h0 with h|h;exact h;exact absurd h ht
  refine⟨some ⟨ob,c,none⟩,n-c,fun W=>?_,fun _=>rfl⟩;rw[aJ ht,←hn,lI W _ _ _ _ _ hu,pC W _ _ n n hu .i64 _ (by omega) (by omega),hs];unfold sliced;have e:¬(n=((c:Int)).toNat):=by omega
  rw[Result.andThen,aJ e];simp[Addr.add];omega
set_option maxRecDepth 8000 in
theorem SH (n cx db:Nat) (D:DM ByteArray) (W:World) (hn:1≤n) (hcx:W.cell? ⟨cx,0,none⟩=some (dp db)) (hD:D.WF) (h:bu dty W db D):
  pZ (α:=List (DE ByteArray)) Fence.wide n Tryz.prog 348 #[dp cx] (fun l=>#[ptr l]) (D.old.drop D.cur++D.aW) (fun b=>b=cx∨b∈D.blocks db) W:=by
 intro l J G0 H0 hJ hY h0 hG hH;have h1:1≤n:=hn;have HJ:=ae hJ;have HY:=ae hY
 have HB:=ae (show ∀ X,KP (fun b=>¬H0 b) W X→bu dty X db D∧X.cell? ⟨cx,0,none⟩=some (dp db) from fun X hk=>by
  refine⟨h.bY (fun b hb=>hk.block b (h.lt b hb) (fun e=>(hH b e).2 (.inr hb))),?_⟩;have hl:=du W _ hcx;have:=hk.block cx hl (fun e=>(hH cx e).2 (.inl rfl))
  exact(ez (a:=⟨cx,0,none⟩) this).trans hcx)
 have Ea:Hid (AlR J H0 W (D.old.drop D.cur++D.aW) 0 W):=ae ⟨⟨G0,H0,h0,fun b hb=>.inl hb⟩,KP.refl _ _⟩
 have hcn:D.cur<D.old.length∨D.old=[]:=by
  by_cases hy:D.aW=[]
  ·have:=hD.cur hy
   by_cases ho:D.old=[]
   ·exact .inr ho
   ·exact .inl (by have:=bZ.2 ho;omega)
  ·exact .inl (hD.lt hy)
 have hcl:D.cur≤D.old.length:=by
  rcases hcn with h|h
  ·omega
  ·have:=hD.cur (hD.none h);omega
 obtain⟨a,cap,hsl,ha⟩:=BR D.ob D.old.length D.cur D.old rfl hcl hcn;have c1:=h.c1;have c3:=h.c3;have vC:=h.bo;have hby:=h.by_
 have HO:=ae (show ∀ X,KP (fun b=>¬H0 b) W X→∀ k l,(D.old.drop D.cur)[k]?=some l→∃ ob,a=some ⟨ob,D.cur,none⟩∧X.cell? ⟨ob,D.cur+k,none⟩=some (ptr l) from fun X hk k l hl=>by
  rw[fS] at hl;have hne:D.old≠[]:=by rintro e;rw[e] at hl;simp at hl
  exact⟨_,ha hne,(HB.out X hk).1.ho.cell hl⟩)
 have Zf:=ae (show ∀ X,KP (fun b=>¬H0 b) W X→∀ k l,D.aW[k]?=some l→X.cell? ⟨D.yb,k,none⟩=some (ptr l) from fun X hk k l hl=>(HB.out X hk).1.hy.cell hl);have FI:=ae (show ∀ X,KP (fun b=>¬H0 b) W X→X.cell? ⟨cx,0,none⟩=some (dp db)∧X.cell? ⟨db,2,none⟩=some (fJ D.yb D.aW) from fun X hk=>⟨(HB.out X hk).2,(HB.out X hk).1.c2⟩);obtain⟨no,hno⟩:∃ no,D.old.length-D.cur=no:=⟨_,rfl⟩;have rY:=ae (show no=(D.old.drop D.cur).length by simp[hno]);have Lk:no≤17592186044416:=by omega
 rw[hno] at hsl;have Vq:=ae (show(D.old.drop D.cur++D.aW).length=no+D.aW.length by rw[aM,←rY.out]);generalize D.old.drop D.cur=os at *
 generalize D.aW=ys at *
 generalize qj:fJ D.ob D.old=tv at *
 generalize D.cur=cur at *
 clear h hD ha hcn hcl hno qj vC h0 hJ hY;unfold dp at hcx FI ⊢;refine uh Tryz.func348 rfl trivial ?_ rfl;simp only[Tryz.ntmps348,cJ,List.length_cons,List.length_nil,Nat.reduceAdd,Nat.reduceSub,fv,Array.replicate_zero,gd,fF,List.nil_append,List.cons_append]
 gi_wp2_with fail
 gi_quiet (fail)
 gi_wp2
 gi_loopw [17,4] (fun i _ X=>∃ k:Nat,i=.int .i64 (k:Int)∧k≤no∧Hid (AlR J H0 W (os++ys) k X)) (fun i _ _=>no-(intOf i).toNat)
 case atStart=>exact⟨0,rfl,bz _,ae (Ea.out.lW HJ.out ((KP.refl _ _).drewN _))⟩
 case round=>
  obtain⟨k,rfl,hk,HV⟩:=hrel;clear hcx c1 c3
  by_cases hlt:k<no
  ·obtain⟨c,hc⟩:∃ c,os[k]?=some c:=⟨_,ag (by rw[←rY.out];exact hlt)⟩;obtain⟨ob,rfl,hcl⟩:=HO.out wr HV.out.kp k c hc;have hxs:(os++ys)[k]?=some c:=by rw[b8 (by rw[←rY.out];exact hlt)];exact hc
   have hkn:(k:Int)<(no:Int):=by omega
   obtain⟨⟨G,H,hjj,xQ⟩,hkp⟩:=HV.out;obtain⟨fn,tmps,assign,body,hy,hR⟩:=HY.out _ _ _ G H wr (lH hxs) hjj;have Cs:=ae xQ;have FH:=ae hkp;have Mv:=ae hxs;have HR:=ae hR;clear xQ hkp hxs hc hjj hR
   gi_wp2
   refine HR.out.mono ?_;rintro e W3 ⟨rfl,hr⟩;have I:Hid (AlR J H0 W (os++ys) (k+1) W3):=ae (AlR.step FH.out Cs.out Mv.out hr);clear hr hy hcl
   gi_wp2
   refine⟨⟨k+1,rfl,by omega,I⟩,?_⟩;simp[intOf];omega
  ·obtain rfl:k=no:=by omega
   obtain⟨d1,d2⟩:=FI.out wr HV.out.kp;obtain⟨ya,Wu,hyv,hya⟩:=gj D.yb ys;obtain⟨ny,hny⟩:∃ ny,ys.length=ny:=⟨_,rfl⟩;rw[hyv,hny] at d2;have Mt:=ae hya;have My:=ae hny.symm;have Lj:ny≤17592186044416:=by rw[←hny];exact hby
   clear hyv hya hny hby
   gi_wp2
   gi_loopw [31,6] (fun i _ X=>∃ j:Nat,i=.int .i64 (j:Int)∧j≤ny∧Hid (AlR J H0 W (os++ys) (k+j) X)) (fun i _ _=>ny-(intOf i).toNat)
   case atStart=>exact⟨0,rfl,bz _,HV⟩
   case round=>
    obtain⟨j,rfl,hj,HE⟩:=hrel;clear d1 d2
    by_cases hjm:j<ny
    ·obtain⟨c,hc⟩:∃ c,ys[j]?=some c:=⟨_,ag (by rw[←My.out];exact hjm)⟩;obtain rfl:=Mt.out (by rintro rfl;simp at hc);have hcl:=Zf.out wr HE.out.kp j c hc;have hxs:(os++ys)[k+j]?=some c:=by rw[bN (by rw[←rY.out];omega),←rY.out,dC];exact hc
     have hjn:(j:Int)<(ny:Int):=by omega
     obtain⟨⟨G,H,hjj,xQ⟩,hkp⟩:=HE.out;obtain⟨fn,tmps,assign,body,hy,hR⟩:=HY.out _ _ _ G H wr (lH hxs) hjj;have Cs:=ae xQ;have FH:=ae hkp;have Mv:=ae hxs;have HR:=ae hR;clear xQ hkp hxs hc hjj hR
     gi_wp2
     refine HR.out.mono ?_;rintro e W3 ⟨rfl,hr⟩;have I:Hid (AlR J H0 W (os++ys) (k+(j+1)) W3):=ae (AlR.step FH.out Cs.out Mv.out hr);clear hr hy hcl
     gi_wp2
     refine⟨⟨j+1,rfl,by omega,I⟩,?_⟩;simp[intOf];omega
    ·obtain rfl:j=ny:=by omega
     gi_wp2
     go_end0
     obtain⟨⟨G,H,hj,hh⟩,hk⟩:=HE.out;rw[aE (by have:=Vq.out;have:=My.out;omega)] at hj;exact⟨⟨_,rfl⟩,G,H,hj,hh,hk⟩
end jw.sd
namespace jw
open ks (af ae hlt ah bC alloc_old aG aX aT dp KP eS)
def qn (v:Value):Obj:=.cells #[v] 32 (0,0)
structure EcI (B bk bv:Nat) (Rb:eS) (R:World→Prop) (xs ys:List ByteArray) (G H:eS) (X:World) (kv vv:Value):Prop where
 k:X.heap[bk]?=some (qn kv)
 v:X.heap[bv]?=some (qn vv)
 kr:bF b9 1 9 B X kv xs
 vr:bF b9 1 9 B X vv ys
 ap:∀ b,kv.ownBlock=some b→vv.ownBlock≠some b
 r:R X
 lo:∀ b,H b→B≤b
 rb:∀ b,Rb b→G b
 g:∀ b,b=bk∨b=bv∨kv.ownBlock=some b∨vv.ownBlock=some b→G b
 h:∀ b,b=bk∨b=bv∨kv.ownBlock=some b∨vv.ownBlock=some b→H b
variable {B bk bv:Nat} {Rb:eS} {R:World→Prop} {xs ys:List ByteArray} {G H:eS} {X:World} {kv vv:Value}
theorem EcI.lW {Y:World} (h:EcI B bk bv Rb R xs ys G H X kv vv) (hR:∀ X Y,R X→KP Rb X Y→R Y) (hk:KP G X Y):EcI B bk bv Rb R xs ys G H Y kv vv:=
 ⟨(hk.block _ (hlt h.k) (h.g _ (.inl rfl))).trans h.k,(hk.block _ (hlt h.v) (h.g _ (.inr (.inl rfl)))).trans h.v,
  h.kr.bY (fun b hb=>hk.block b (h.kr.lt b hb).2 (h.g b (.inr (.inr (.inl hb))))),h.vr.bY (fun b hb=>hk.block b (h.vr.lt b hb).2 (h.g b (.inr (.inr (.inr hb))))),h.ap,
  hR _ _ h.r (hk.mono (fun b _ hb=>h.rb b hb)),h.lo,h.rb,h.g,h.h⟩
structure EcS (B bk bv:Nat) (Rb:eS) (R:World→Prop) (xs ys:List ByteArray) (G0 H0:eS) (X0:World) (X:World) (kv vv:Value):Prop where
 e:∃ G H,EcI B bk bv Rb R xs ys G H X kv vv∧(∀ b,G b→G0 b∨X0.heap.size≤b)∧(∀ b,H b→H0 b∨X0.heap.size≤b)
 kp:KP (fun b=>¬H0 b) X0 X
theorem EcS.start (h:EcI B bk bv Rb R xs ys G H X kv vv):EcS B bk bv Rb R xs ys G H X X kv vv:=⟨⟨G,H,h,fun b hb=>.inl hb,fun b hb=>.inl hb⟩,KP.refl _ _⟩
theorem EcS.SE {G0 H0:eS} {X0:World} (h:EcS B bk bv Rb R xs ys G0 H0 X0 X kv vv):kv.ownBlock≠some bk∧kv.ownBlock≠some bv∧vv.ownBlock≠some bk∧vv.ownBlock≠some bv:=by obtain⟨⟨G,H,h1,_,_⟩,_⟩:=h;exact⟨h1.kr.bw h1.k (by decide),h1.kr.bw h1.v (by decide),h1.vr.bw h1.k (by decide),h1.vr.bw h1.v (by decide)⟩
theorem EcS.pk {G0 H0:eS} {X0 w5:World} {s:ByteArray} {g n cap:Nat} (h:EcS B bk bv Rb R xs ys G0 H0 X0 X kv vv) (hR:∀ X Y,R X→KP Rb X Y→R Y) (hRb:∀ b,Rb b→b<B) (hne:bk≠bv)
  (hp:eW b9 1 9 B X.drew w5 kv xs s g n cap):
  (∃ u,w5.cell? ⟨bk,0,none⟩=some u)∧w5.frozen? ⟨bk,0,none⟩=false∧EcS B bk bv Rb R (xs++[s]) ys G0 H0 X0 (w5.setCell ⟨bk,0,none⟩ (.slice (some ⟨g,0,none⟩) (n+1) cap)) (.slice (some ⟨g,0,none⟩) (n+1) cap) vv:=by
 obtain⟨b1,b2,b3,b4⟩:=h.SE;obtain⟨⟨G,H,h1,h2,h3⟩,h4⟩:=h;have k5:w5.heap[bk]?=some (qn kv):=hp.bY.get (show X.drew.heap[bk]?=_ from h1.k) (by simp;exact b1);have v5:w5.heap[bv]?=some (qn vv):=hp.bY.get (show X.drew.heap[bv]?=_ from h1.v) (by simp;exact b2);have hsz:X.drew.heap.size=X.heap.size:=rfl
 have Yj:g≠bk:=by
  rcases hp.at_ with e|e
  ·intro e2;rw[e2] at e;exact b1 e
  ·have:=hlt h1.k;omega
 have hgv:g≠bv:=by
  rcases hp.at_ with e|e
  ·intro e2;rw[e2] at e;exact b2 e
  ·have:=hlt h1.v;omega
 have hgo:vv.ownBlock≠some g:=by
  rcases hp.at_ with e|e
  ·exact h1.ap g e
  ·intro e2;have:=(h1.vr.lt _ e2).2;omega
 have hkp:KP (fun b=>¬H b) X (w5.setCell ⟨bk,0,none⟩ (.slice (some ⟨g,0,none⟩) (n+1) cap)):=by refine KP.setCell (p:=⟨bk,0,none⟩) ?_ (fun hc=>by have:=hc.2;exact this (h1.h bk (.inl rfl))) _;have:=KP.il (G:=fun b=>¬H b) hp.bY (fun b _ hb hm=>hb (h1.h b (.inr (.inr (.inl (by simpa using hm))))));exact((KP.refl _ X).drew).trans this
 refine⟨⟨_,by rw[ah k5];rfl⟩,bC k5 0,⟨fun b=>G b∨b=g,fun b=>H b∨b=g,⟨?_,?_,?_,?_,?_,?_,?_,?_,?_,?_⟩,?_,?_⟩,?_⟩
 ·rw[aX k5 0 _];rfl
 ·exact(aT _ (fun e=>hne e.symm)).trans v5
 ·exact hp.own.bY (fun b hb=>aT _ (fun e=>Yj (by simp[Value.ownBlock] at hb;rw[hb];exact e)))
 ·exact h1.vr.bY (fun b hb=>(aT (a:=⟨bk,0,none⟩) _ (fun e=>b3 (by rw[hb];exact congrArg some e))).trans (hp.bY.block b (h1.vr.lt b hb).2 (by simp;exact fun e=>h1.ap b e hb)))
 ·intro b hb;simp[Value.ownBlock] at hb;rw[←hb];exact hgo
 ·exact hR _ _ h1.r (hkp.mono (fun b _ hb hc=>by have:=h1.lo b hc;have:=hRb b hb;omega))
 ·rintro b (hb|rfl)
  ·exact h1.lo b hb
  ·rcases hp.at_ with e|e
   ·exact(h1.kr.lt _ e).1
   ·have:=h1.lo bk (h1.h bk (.inl rfl));have:=hlt h1.k;omega
 ·exact fun b hb=>.inl (h1.rb b hb)
 ·rintro b (rfl|rfl|hb|hb)
  ·exact .inl (h1.g _ (.inl rfl))
  ·exact .inl (h1.g _ (.inr (.inl rfl)))
  ·simp[Value.ownBlock] at hb;exact .inr hb.symm
  ·exact .inl (h1.g _ (.inr (.inr (.inr hb))))
 ·rintro b (rfl|rfl|hb|hb)
  ·exact .inl (h1.h _ (.inl rfl))
  ·exact .inl (h1.h _ (.inr (.inl rfl)))
  ·simp[Value.ownBlock] at hb;exact .inr hb.symm
  ·exact .inl (h1.h _ (.inr (.inr (.inr hb))))
 ·rintro b (hb|rfl)
  ·exact h2 b hb
  ·rcases hp.at_ with e|e
   ·exact h2 b (h1.g _ (.inr (.inr (.inl e))))
   ·right;have:=h4.size;omega
 ·rintro b (hb|rfl)
  ·exact h3 b hb
  ·rcases hp.at_ with e|e
   ·exact h3 b (h1.h _ (.inr (.inr (.inl e))))
   ·right;have:=h4.size;omega
 ·exact h4.uU hkp (fun b hl hb hc=>by
   rcases h3 b hc with h5|h5
   ·exact hb h5
   ·omega)
theorem EcI.swap (h:EcI B bk bv Rb R xs ys G H X kv vv):EcI B bv bk Rb R ys xs G H X vv kv:=⟨h.v,h.k,h.vr,h.kr,fun b h1 h2=>h.ap b h2 h1,h.r,h.lo,h.rb,fun b hb=>h.g b (by rcases hb with h1|h1|h1|h1<;>simp[h1]),fun b hb=>h.h b (by rcases hb with h1|h1|h1|h1<;>simp[h1])⟩
theorem EcS.swap {G0 H0:eS} {X0:World} (h:EcS B bk bv Rb R xs ys G0 H0 X0 X kv vv):EcS B bv bk Rb R ys xs G0 H0 X0 X vv kv:=by obtain⟨⟨G,H,h1,h2,h3⟩,h4⟩:=h;exact⟨⟨G,H,h1.swap,h2,h3⟩,h4⟩
theorem EcS.pv {G0 H0:eS} {X0 w5:World} {s:ByteArray} {g n cap:Nat} (h:EcS B bk bv Rb R xs ys G0 H0 X0 X kv vv) (hR:∀ X Y,R X→KP Rb X Y→R Y) (hRb:∀ b,Rb b→b<B) (hne:bk≠bv)
  (hp:eW b9 1 9 B X.drew w5 vv ys s g n cap):
  (∃ u,w5.cell? ⟨bv,0,none⟩=some u)∧w5.frozen? ⟨bv,0,none⟩=false∧EcS B bk bv Rb R xs (ys++[s]) G0 H0 X0 (w5.setCell ⟨bv,0,none⟩ (.slice (some ⟨g,0,none⟩) (n+1) cap)) kv (.slice (some ⟨g,0,none⟩) (n+1) cap):=by
 obtain⟨a,b,c⟩:=h.swap.pk hR hRb (fun e=>hne e.symm) hp;exact⟨a,b,c.swap⟩
theorem BL {α:Type} (t:List (List α)) (c:Nat) (h:∀ i,i<c→t[i]?=some []):(t.drop c).flatten=t.flatten:=by
 induction c generalizing t with
 | zero=>rfl
 | succ c ih=>
  cases t with
  | nil=>rfl
  | cons x r=>have h0:=h 0 (by omega);simp at h0;subst h0;rw[dt,List.flatten_cons,List.nil_append];exact ih r (fun i hi=>by have:=h (i+1) (by omega);simpa using this)
theorem rE {α:Type} {D:ks.DM α} (h:D.WF):(D.old.drop D.cur++D.aW).flatten=D.all:=by rw[iX,BL _ _ h.gone];rfl
end jw
end Go.Proofs.YthpdlidbaojlbaaGreatDoor
