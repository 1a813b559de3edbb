/- deque: Copy. -/
import Derived.Test.YthpdlidbaojlbaaGreatDoorQ10
set_option linter.unusedVariables false
set_option linter.unusedSimpArgs false
set_option maxHeartbeats 4000000
open Go.ChangeShapes Go.WideShapes Go.RowKit
namespace Go.Proofs.YthpdlidbaojlbaaGreatDoor
namespace jw
open ks (af ae hlt ah bC alloc_old aG aX aT dp)
theorem Gt:(Tryz.prog.info? 159).map (fun i=>(i.zero,i.size,i.bytes))=some (some (.pointer none),1,8):=by kernel_rfl
theorem Gq (B:Nat) (v:Value) (cs:List CK) (y:CK) (W:World) (h:bF mf 1 159 B W v cs) (hB:B≤W.heap.size) (hn:cs.length≤1048576):
  Calls Tryz.prog 94 #[v,.int .i64 (cs.length:Int),.slice (some ⟨W.heap.size,0,none⟩) 1 1] (W.alloc (.cells #[dp y.b] 159)) fun r w2=>∃ g cap,r=.returned (.slice (some ⟨g,0,none⟩) (cs.length+1) cap)∧
   eW mf 1 159 B W w2 v cs y g cs.length cap:=by
 obtain⟨i9,hi9,iV,iA,im⟩:=cF Gt;obtain⟨a,cap,rfl,hc1,hc2,hc3,ha⟩:=h.form;have H:=ae h;have HN:=ae hn;have HB:=ae hB;have HA:=ae ha;have hcap:cap≤9223372036854775807:=by unfold maxLen at hc2;omega
 generalize hnn:cs.length=n at *
 have xW:=ae hnn;have ZX:=ae hc3;clear h hB ha hnn hc2 hc3;unfold dp;go_enter Tryz.func94,Tryz.ntmps94
 by_cases hcn:cap=n
 ·subst hcn;go_wp2_with (at_builtin;refine gV rfl _ _ 153 rfl mf 1 159 B i9 (.pointer none) 8 Tryz.underlying153 hi9 iV iA im rfl Fk (.slice a cap cap) cap cs y rfl H.out xW.out.symm 159 rfl 1 rfl (by have:=HN.out;unfold maxLen;omega) (by have:=HN.out;omega) HB.out ?_;intro g cap2 w2 hp;have HP:=ae hp;clear hp)
  go_ret;exact⟨g,cap2,rfl,HP.out⟩
 ·obtain⟨A,rfl⟩:∃ A,a=some A:=by
   cases a with
   | none=>have:=ZX.out rfl;omega
   | some A=>exact⟨A,rfl⟩
  go_wp2_with (at_builtin;refine gV rfl _ _ 153 rfl mf 1 159 B i9 (.pointer none) 8 Tryz.underlying153 hi9 iV iA im rfl Fk (.slice (some A) n cap) n cs y rfl H.out xW.out.symm 159 rfl 1 rfl (by have:=HN.out;unfold maxLen;omega) (by have:=HN.out;omega) HB.out ?_;intro g cap2 w2 hp;have HP:=ae hp;clear hp)
  go_ret;exact⟨g,cap2,rfl,HP.out⟩
set_option maxRecDepth 8000 in
theorem Ul (B db:Nat) (sv:Value) (cs:List CK) (c:CK) (cost:Nat) (s:ByteArray) (w:World) (hd:w.heap[db]?=some (.cells #[sv,.int .i64 ((cO (cs++[c])).length:Int),.int .i64 (cost:Int)] 155 (0,0)))
  (hrow:bF mf 1 159 B w sv (cs++[c])) (hc:w.heap[c.b]?=some (jb c.ts)) (hn:c.ts.length<32) (hcd:c.b≠db) (hk:cost≤1099527880704) (ht:(cO (cs++[c])).length≤1048576) (hl:cs.length≤1048576) (hs:s.size≤1048576):
  Calls Tryz.prog 95 #[dp db,.int .i64 (cs.length:Int),.int .i64 (c.ts.length:Int),.string s] w fun r w'=>r=.returned (.tuple #[])∧w'.heap[c.b]?=some (jb (c.ts++[s]))∧
   w'.heap[db]?=some (.cells #[sv,.int .i64 (((cO (cs++[c])).length+1:Nat):Int),.int .i64 ((cost+(16+s.size):Nat):Int)] 155 (0,0))∧af [c.b,db] w w':=by
 obtain⟨a,cap,hv,_,_,_,ha⟩:=hrow.form;obtain⟨rg,rfl⟩:=ha (by simp);rw[aM,List.length_singleton] at hv;have e0:w.cell? ⟨db,0,none⟩=some (.slice (some ⟨rg,0,none⟩) (cs.length+1) cap):=by rw[ah hd,←hv];rfl
 have Sv:w.cell? ⟨rg,cs.length,none⟩=some (dp c.b):=by
  rw[hv] at hrow;have hpe:(cs++[c])[cs.length]?=some c:=by rw[bN (aq _),dZ];rfl
  have:=bF.cell (enc:=mf) (fun _=>rfl) hrow hpe (j:=0) (u:=dp c.b) rfl
  rwa [bB,Nat.add_zero] at this
 obtain⟨tn,htn⟩:∃ tn,tn=(cO (cs++[c])).length:=⟨_,rfl⟩;rw[←htn] at hd ht ⊢;have HD:=ae hd;have vU:=ae (T3 c.b c.ts s w hc hn);have TI:=ae hcd;have HWT:=ae (fun W=>M9 s W hs);have tj:=ae hs;obtain⟨n,hnn⟩:∃ n,n=cs.length:=⟨_,rfl⟩;rw[←hnn] at e0 Sv hl ⊢;have hlt:(n:Int)<(n:Int)+1:=by omega
 obtain⟨m,hm⟩:∃ m,m=c.ts.length:=⟨_,rfl⟩;rw[←hm] at vU hn ⊢;obtain⟨cst,yV⟩:∃ cst,cst=cost+(16+s.size):=⟨_,rfl⟩;rw[←yV];have hsum:(cost:Int)+(16+(s.size:Int))=(cst:Int):=by omega
 have hcs2:cst≤1099528945000:=by omega
 have Ce:=ae hsum;clear hd hrow hc hcd htn hnn hm hv yV hsum;unfold dp at Sv vU ⊢;go_enter Tryz.func95,Tryz.ntmps95
 go_wp2_with fail
 refine vU.out.mono ?_;rintro r w1 ⟨rfl,h1,k1⟩;have hd1:=k1.get HD.out (by simp;exact fun e=>TI.out e.symm);have c1:w1.cell? ⟨db,1,none⟩=some (.int .i64 (tn:Int)):=by rw[ah hd1];rfl
 have c2:w1.cell? ⟨db,2,none⟩=some (.int .i64 (cost:Int)):=by rw[ah hd1];rfl
 have f1:w1.frozen? ⟨db,1,none⟩=false:=bC hd1 1;have f2:w1.frozen? ⟨db,2,none⟩=false:=bC hd1 2;have HD1:=ae hd1;have H1:=ae h1;have K1:=ae k1;clear e0 Sv hd1 h1 k1;have HW2:=ae (fun W=>(HWT.out W).mono (R':=fun r w'=>r=.returned (.int .i64 (16+(s.size:Int)))∧w'=W) (fun r w' h=>⟨h.1,h.2.symm⟩));go_wp2_with fail
 obtain⟨tm,Pv⟩:∃ tm,tm=(tn:Int)+1:=⟨_,rfl⟩;have HTM:=ae Pv;obtain⟨W,hW⟩:∃ W,W=w1.setCell ⟨db,1,none⟩ (.int .i64 ((tn:Int)+1)):=⟨_,rfl⟩;have g2:W.cell? ⟨db,2,none⟩=some (.int .i64 (cost:Int)):=by rw[hW];exact(kJ w1 _ _ _ (by simp)).trans c2
 have z2:W.frozen? ⟨db,2,none⟩=false:=by rw[hW,ml];exact f2
 have Zh:=ae hW;rw[←hW];clear hW c1 c2 f1 f2 Pv;have hwc:IntKind.i64.wrap (cst:Int)=(cst:Int):=by rw[cH];omega
 go_still_tail 9,(by kernel_rfl)
 still_call (HW2.out _)
 have Ux:(cost:Int)+(16+(s.size:Int))=(cst:Int):=Ce.out
 repeat still_step
 refine wpStill_nil ?_;go_wp2_with fail
 go_end0
 refine⟨rfl,?_,?_,?_⟩
 ·show(W.setCell ⟨db,2,none⟩ (.int .i64 (cst:Int))).heap[c.b]?=_
  rw[Zh.out];exact(aT _ TI.out).trans ((aT _ TI.out).trans H1.out)
 ·show(W.setCell ⟨db,2,none⟩ (.int .i64 (cst:Int))).heap[db]?=_
  rw[Zh.out,aX (aX HD1.out 1 _) 2 _];rfl
 ·rw[Zh.out];exact(((K1.out.mono (by simp)).setCell (p:=⟨db,1,none⟩) (.inl (by simp)) _).setCell (p:=⟨db,2,none⟩) (.inl (by simp)) _).drew
theorem pA (cs:List CK) (c:CK):cO (cs++[c])=cO cs++c.ts:=by unfold cO;simp
theorem o9.laid {B:Nat} {w w':World} {db:Nat} {sv:Value} {cs:List CK} {c:CK} {cost:Nat} {s:ByteArray} (hb:B≤db) (hrow:bF mf 1 159 B w sv (cs++[c])) (hch:∀ x∈cs,w.heap[x.b]?=some (jb x.ts)∧B≤x.b∧x.ts.length≤32∧0<x.ts.length)
  (hnd:((cs++[c]).map (fun x=>x.b)).Nodup) (hcb:B≤c.b) (hcn:c.ts.length<32) (hdb:∀ x∈cs,x.b≠db) (hsv:sv.ownBlock≠some db∧sv.ownBlock≠some c.b) (Gz:cost≤1048592*(cO (cs++[c])).length) (hs:s.size≤1048576)
  (h1:w'.heap[c.b]?=some (jb (c.ts++[s]))) (h2:w'.heap[db]?=some (.cells #[sv,.int .i64 (((cO (cs++[c])).length+1:Nat):Int),.int .i64 ((cost+(16+s.size):Nat):Int)] 155 (0,0))) (hk:af [c.b,db] w w'):
  o9 B w' db sv (cs++[⟨c.b,c.ts++[s]⟩]) (cost+(16+s.size))∧cO (cs++[⟨c.b,c.ts++[s]⟩])=cO (cs++[c])++[s]:=by
 have ht:cO (cs++[⟨c.b,c.ts++[s]⟩])=cO (cs++[c])++[s]:=by rw[pA,pA,aD]
 have XZ:=hnd;rw[aZ,bQ] at hnd;refine⟨⟨?_,?_,fun x hx=>?_,?_,hb,?_⟩,ht⟩
 ·rw[ht,aM];exact h2
 ·have:=hrow.keeps hk (fun b hb1 hm=>by
   simp at hm
   rcases hm with rfl|rfl
   ·exact hsv.2 hb1
   ·exact hsv.1 hb1)
  unfold bF at this ⊢;have e:(cs++[c]).flatMap mf=(cs++[(⟨c.b,c.ts++[s]⟩:CK)]).flatMap mf:=by simp[mf]
  rw[←e];simpa using this
 ·rcases bj.1 hx with hx|hx
  ·obtain⟨a1,a2⟩:=hch x hx;refine⟨hk.get a1 ?_,a2⟩;simp;exact⟨fun e=>hnd.2.2 x.b (aV.2 ⟨x,hx,rfl⟩) c.b (by simp) e,hdb x hx⟩
  ·simp at hx;subst hx;exact⟨h1,hcb,by simp;omega,by simp⟩
 ·simpa using XZ
 ·rw[ht,aM,List.length_singleton];omega
def mn:Obj:=.cells #[.string ⟨#[]⟩,.string ⟨#[]⟩,.string ⟨#[]⟩,.string ⟨#[]⟩,.string ⟨#[]⟩,.string ⟨#[]⟩,.string ⟨#[]⟩,.string ⟨#[]⟩,.string ⟨#[]⟩,.string ⟨#[]⟩,.string ⟨#[]⟩,.string ⟨#[]⟩,.string ⟨#[]⟩,.string ⟨#[]⟩,.string ⟨#[]⟩,.string ⟨#[]⟩,.string ⟨#[]⟩,.string ⟨#[]⟩,.string ⟨#[]⟩,.string ⟨#[]⟩,.string ⟨#[]⟩,.string ⟨#[]⟩,.string ⟨#[]⟩,.string ⟨#[]⟩,.string ⟨#[]⟩,.string ⟨#[]⟩,.string ⟨#[]⟩,.string ⟨#[]⟩,.string ⟨#[]⟩,.string ⟨#[]⟩,.string ⟨#[]⟩,.string ⟨#[]⟩,.int .i64 0] 158
structure Zc (B:Nat) (w w3:World) (db:Nat) (cs:List CK) (s:ByteArray) (g:Nat) (cap:Nat):Prop where
 c0:w3.cell? ⟨db,0,none⟩=some (.slice (some ⟨g,0,none⟩) (cs.length+1) cap)
 c1:w3.cell? ⟨g,cs.length,none⟩=some (.pointer (some ⟨w.heap.size,0,none⟩))
 c2:w3.cell? ⟨w.heap.size,32,none⟩=some (.int .i64 0)
 lay:Calls Tryz.prog 95 #[.pointer (some ⟨db,0,none⟩),.int .i64 (cs.length:Int),.int .i64 0,.string s] w3 fun r w'=>r=.returned (.tuple #[])∧∃ Co cs' j7,o9 B w' db Co cs' j7∧cO cs'=cO cs++[s]∧Below B w w'
theorem AG {B db:Nat} {sv:Value} {cs:List CK} {cost:Nat} {s:ByteArray} {w:World} (h:o9 B w db sv cs cost) (hs:s.size≤1048576) (hn:(cO cs).length<1048576) {g cap:Nat} {w2:World}
  (hp:eW mf 1 159 B (w.alloc mn) w2 sv cs ⟨w.heap.size,[]⟩ g cs.length cap):
  (∃ u,w2.cell? ⟨db,0,none⟩=some u)∧w2.frozen? ⟨db,0,none⟩=false∧Zc B w (w2.setCell ⟨db,0,none⟩ (.slice (some ⟨g,0,none⟩) (cs.length+1) cap)) db cs s g cap:=by
 have hap:=h.apart;have hdb:=hlt h.hd;have hBw:B≤w.heap.size:=by have:=h.b;omega
 have hzz:(w.alloc mn).heap.size=w.heap.size+1:=by simp
 have hge:=wk (cs:=cs) (fun c hc=>(h.ch c hc).2.2.2);have Le:=h.row.lt;have hd2:w2.heap[db]?=_:=hp.bY.get (alloc_old mn h.hd) (by simp;exact hap.1);have hc2:w2.heap[w.heap.size]?=some (jb []):=hp.bY.get (aG w mn) (by simp;exact fun e=>by have:=(Le _ e).2;omega)
 have hgd:g≠db∧g≠w.heap.size:=by
  rcases hp.at_ with h1|h1
  ·exact⟨fun e=>hap.1 (by rw[←e];exact h1),fun e=>by have:=(Le _ h1).2;omega⟩
  ·rw[hzz] at h1;exact⟨by omega,by omega⟩
 have hrow:bF mf 1 159 B (w2.setCell ⟨db,0,none⟩ (.slice (some ⟨g,0,none⟩) (cs.length+1) cap)) (.slice (some ⟨g,0,none⟩) (cs.length+1) cap) (cs++[⟨w.heap.size,[]⟩]):=hp.own.bY (fun b hb=>aT _ (fun e=>hgd.1 (by simp[Value.ownBlock] at hb;rw[hb];exact e)))
 have hd3:(w2.setCell ⟨db,0,none⟩ (.slice (some ⟨g,0,none⟩) (cs.length+1) cap)).heap[db]?=some (.cells #[.slice (some ⟨g,0,none⟩) (cs.length+1) cap,.int .i64 ((cO (cs++[⟨w.heap.size,[]⟩])).length:Int),.int .i64 (cost:Int)] 155 (0,0)):=by rw[aX hd2 0 _,pA];simp
 have hc3:(w2.setCell ⟨db,0,none⟩ (.slice (some ⟨g,0,none⟩) (cs.length+1) cap)).heap[w.heap.size]?=some (jb []):=(aT _ (by show w.heap.size≠db;omega)).trans hc2
 have hk3:af (db::sv.ownBlock.toList) w (w2.setCell ⟨db,0,none⟩ (.slice (some ⟨g,0,none⟩) (cs.length+1) cap)):=((((af.refl [] w).alloc mn).mono (by simp)).trans (hp.bY.mono (fun b hb=>bO _ hb))).setCell (p:=⟨db,0,none⟩) (.inl (by simp)) _
 have hlen:(cs++[(⟨w.heap.size,[]⟩:CK)])[cs.length]?=some ⟨w.heap.size,[]⟩:=by rw[bN (aq _),dZ];rfl
 have ht:cO (cs++[⟨w.heap.size,[]⟩])=cO cs:=by rw[pA];simp
 refine⟨⟨_,by rw[ah hd2];rfl⟩,bC hd2 0,⟨by rw[ah hd3];rfl,?_,by rw[ah hc3];rfl,?_⟩⟩
 ·have:=bF.cell (enc:=mf) (fun _=>rfl) hrow hlen (j:=0) (u:=dp w.heap.size) rfl
  rwa [bB,Nat.add_zero] at this
 ·have Gz:=h.cost;refine(Ul B db _ cs ⟨w.heap.size,[]⟩ cost s _ hd3 hrow hc3 (by simp) (by show w.heap.size≠db;omega) (by omega) (by rw[ht];omega) (by omega) hs).mono ?_;rintro r w4 ⟨rfl,l1,l2,l3⟩
  have hnd:((cs++[(⟨w.heap.size,[]⟩:CK)]).map (fun x=>x.b)).Nodup:=by rw[aZ,bQ];refine⟨h.nd,by simp,fun a ha b hb e=>?_⟩;simp at hb;obtain⟨x,hx,rfl⟩:=aV.1 ha;have:=hlt (h.ch x hx).1;omega
  obtain⟨d1,d2⟩:=o9.laid (w:=w2.setCell ⟨db,0,none⟩ (.slice (some ⟨g,0,none⟩) (cs.length+1) cap)) (c:=⟨w.heap.size,[]⟩) (cost:=cost) (s:=s) h.b hrow
   (fun x hx=>⟨hk3.get (h.ch x hx).1 (by simp;exact⟨(hap.2 x hx).1,(hap.2 x hx).2⟩),(h.ch x hx).2⟩) hnd hBw (by simp) (fun x hx=>(hap.2 x hx).1) ⟨by simp[Value.ownBlock];exact hgd.1,by simp[Value.ownBlock];exact hgd.2⟩ (by rw[ht];exact Gz) hs l1 l2 l3
  refine⟨rfl,_,_,_,d1,by rw[d2,ht],?_⟩
  have k1:Below B w (w2.setCell ⟨db,0,none⟩ (.slice (some ⟨g,0,none⟩) (cs.length+1) cap)):=hk3.ep hBw (fun b hb=>by
   rcases bM.1 hb with rfl|hb
   ·exact h.b
   ·exact(Le b (by simpa using hb)).1)
  exact k1.trans (l3.ep (aF hBw k1.size) (fun b hb=>by simp at hb;rcases hb with rfl|rfl;exact hBw;exact h.b))
set_option maxRecDepth 8000 in
theorem Ot (B db:Nat) (sv:Value) (cs:List CK) (cost:Nat) (s:ByteArray) (w:World) (h:o9 B w db sv cs cost) (hs:s.size≤1048576) (hn:(cO cs).length<1048576):
  Calls Tryz.prog 53 #[dp db,.bool false,.string s] w fun r w'=>r=.returned (.int .i64 0)∧∃ Co cs' j7,o9 B w' db Co cs' j7∧cO cs'=cO cs++[s]∧Below B w w':=by
 have hpos:∀ c∈cs,0<c.ts.length:=fun c hc=>(h.ch c hc).2.2.2
 have hge:=wk hpos;have hap:=h.apart;have H:=ae h;have HS:=ae hs;have HN:=ae hn;have HAP:=ae hap;have Zv:=ae (fun(n:Nat) (W:World) (hc:W.cell? ⟨db,1,none⟩=some (.int .i64 (n:Int))) (h:n<1048576)=>JW db n s W hc hs h);have c1:w.cell? ⟨db,1,none⟩=some (.int .i64 ((cO cs).length:Int)):=by rw[ah h.hd];rfl
 have HR1:=ae (Zv.out _ w c1 hn);have c0:w.cell? ⟨db,0,none⟩=some sv:=by rw[ah h.hd];rfl
 rcases iu cs with he|⟨pre,c,he⟩
 ·subst he
  have hsv:sv=.slice none 0 0∨∃ a cap,sv=.slice a 0 cap:=by obtain⟨a,cap,hv,_⟩:=h.row.form;exact .inr ⟨a,cap,hv⟩
  obtain⟨a,cap,hv⟩:∃ a cap,sv=.slice a 0 cap:=by rcases hsv with h1|h1;exact⟨none,0,h1⟩;exact h1
  have HV:=ae hv;rw[hv] at c0;clear h hs hn hap hsv hv hpos hge c1
  have Ja:=ae (show Calls Tryz.prog 94 #[.slice a 0 cap,.int .i64 0,.slice (some ⟨w.heap.size+1,0,none⟩) 1 1] ((w.alloc (.cells #[.string ⟨#[]⟩,.string ⟨#[]⟩,.string ⟨#[]⟩,.string ⟨#[]⟩,.string ⟨#[]⟩,.string ⟨#[]⟩,.string ⟨#[]⟩,.string ⟨#[]⟩,.string ⟨#[]⟩,.string ⟨#[]⟩,.string ⟨#[]⟩,.string ⟨#[]⟩,.string ⟨#[]⟩,.string ⟨#[]⟩,.string ⟨#[]⟩,.string ⟨#[]⟩,.string ⟨#[]⟩,.string ⟨#[]⟩,.string ⟨#[]⟩,.string ⟨#[]⟩,.string ⟨#[]⟩,.string ⟨#[]⟩,.string ⟨#[]⟩,.string ⟨#[]⟩,.string ⟨#[]⟩,.string ⟨#[]⟩,.string ⟨#[]⟩,.string ⟨#[]⟩,.string ⟨#[]⟩,.string ⟨#[]⟩,.string ⟨#[]⟩,.string ⟨#[]⟩,.int .i64 0] 158)).alloc (.cells #[.pointer (some ⟨w.heap.size,0,none⟩)] 159)) (fun r w2=>∃ g cap,r=.returned (.slice (some ⟨g,0,none⟩) (0+1) cap)∧eW mf 1 159 B (w.alloc mn) w2 sv [] ⟨w.heap.size,[]⟩ g 0 cap) from by
   have hB:=H.out.b;have hB2:=hlt H.out.hd;have:=Gq B sv [] ⟨w.heap.size,[]⟩ (w.alloc mn) (H.out.row.aN ((af.refl _ _).alloc _)) (by simp;omega) (by simp);rw[de,HV.out] at this;rw[HV.out]
   exact this)
  unfold dp at HR1 ⊢;go_enter Tryz.func53,Tryz.ntmps53
  go_wp2_with fail
  refine HR1.out.mono ?_;rintro r w1 ⟨rfl,rfl⟩;go_wp2_with fail
  refine Ja.out.mono ?_;rintro r w2 ⟨g,cap2,rfl,hp⟩;obtain⟨⟨u,x0⟩,xf,hI⟩:=AG H.out HS.out HN.out hp;have HI:=ae hI;clear hp hI c0
  go_upto_region 13 with(fail)
  generalize hw3:w2.setCell ⟨db,0,none⟩ _=w3 at *
  obtain⟨d0,d1,d2,xA⟩:=HI.out;have I9:=ae xA;simp only[List.length_nil,bD] at d0 d1;clear xA hw3 x0 xf;go_wp2_with fail
  refine I9.out.mono ?_;rintro r w4 ⟨rfl,hfin⟩;have gA:=ae hfin;clear hfin d0 d1 d2;go_wp2_with fail
  go_ret;exact⟨rfl,gA.out⟩
 ·rw[mm] at he;subst he;obtain⟨a,cap,hv,_,_,_,ha⟩:=h.row.form;obtain⟨rg,rfl⟩:=ha (by simp);have hlen:(pre++[c]).length=pre.length+1:=by simp
  rw[hlen] at hv;have hrow:=h.row;rw[hv] at hrow;have hpe:(pre++[c])[pre.length]?=some c:=by rw[bN (aq _),dZ];rfl
  have cl:w.cell? ⟨rg,pre.length,none⟩=some (.pointer (some ⟨c.b,0,none⟩)):=by
   have:=bF.cell (enc:=mf) (fun _=>rfl) hrow hpe (j:=0) (u:=dp c.b) rfl
   rwa [bB,Nat.add_zero] at this
  obtain⟨hcc,hcB,hcn,hc0⟩:=h.ch c (by simp);have cn:w.cell? ⟨c.b,32,none⟩=some (.int .i64 (c.ts.length:Int)):=by rw[ah hcc,bX];exact vM hcn
  rw[hv] at c0;have HV:=ae hv;obtain⟨p,hp⟩:∃ p,p=pre.length:=⟨_,rfl⟩;have HP:=ae hp;rw[←hp] at c0 cl;have hpb:p≤1048576:=by rw[hp];rw[hlen] at hge;omega
  have hp1:(0:Int)≤(p:Int):=by omega
  have hp2:(p:Int)<(p:Int)+1:=by omega
  have hp0:((p:Int)+1 == 0)=false:=by simp;omega
  by_cases hfull:c.ts.length=32
  ·rw[hfull] at cn
   have Ja:=ae (show Calls Tryz.prog 94 #[.slice (some ⟨rg,0,none⟩) (p+1) cap,.int .i64 ((p:Int)+1),.slice (some ⟨w.heap.size+1,0,none⟩) 1 1] ((w.alloc (.cells #[.string ⟨#[]⟩,.string ⟨#[]⟩,.string ⟨#[]⟩,.string ⟨#[]⟩,.string ⟨#[]⟩,.string ⟨#[]⟩,.string ⟨#[]⟩,.string ⟨#[]⟩,.string ⟨#[]⟩,.string ⟨#[]⟩,.string ⟨#[]⟩,.string ⟨#[]⟩,.string ⟨#[]⟩,.string ⟨#[]⟩,.string ⟨#[]⟩,.string ⟨#[]⟩,.string ⟨#[]⟩,.string ⟨#[]⟩,.string ⟨#[]⟩,.string ⟨#[]⟩,.string ⟨#[]⟩,.string ⟨#[]⟩,.string ⟨#[]⟩,.string ⟨#[]⟩,.string ⟨#[]⟩,.string ⟨#[]⟩,.string ⟨#[]⟩,.string ⟨#[]⟩,.string ⟨#[]⟩,.string ⟨#[]⟩,.string ⟨#[]⟩,.string ⟨#[]⟩,.int .i64 0] 158)).alloc (.cells #[.pointer (some ⟨w.heap.size,0,none⟩)] 159)) (fun r w2=>∃ g cap,r=.returned (.slice (some ⟨g,0,none⟩) (p+1+1) cap)∧eW mf 1 159 B (w.alloc mn) w2 sv (pre++[c]) ⟨w.heap.size,[]⟩ g (pre++[c]).length cap) from by
    have hB:=H.out.b;have hB2:=hlt H.out.hd;have:=Gq B sv (pre++[c]) ⟨w.heap.size,[]⟩ (w.alloc mn) (H.out.row.aN ((af.refl _ _).alloc _)) (by simp;omega) (by rw[hlen];omega);rw[de] at this;rw[show(((pre++[c]).length:Nat):Int)=(p:Int)+1 by rw[hlen,hp];rfl,HV.out,←hp] at this;rw[HV.out,←hp];refine this.mono ?_;rintro r w9 ⟨g,YX,h1,h2⟩
    exact⟨g,YX,by rw[h1,hlen,hp],h2⟩)
   clear h hs hn hap hv hpos hge c1 hrow hpe hcc hcB hcn hc0 ha hp;unfold dp at HR1 ⊢;go_enter Tryz.func53,Tryz.ntmps53
   go_wp2_with fail
   refine HR1.out.mono ?_;rintro r w1 ⟨rfl,rfl⟩;go_wp2_with fail
   refine Ja.out.mono ?_;rintro r w2 ⟨g,cap2,rfl,hp⟩;obtain⟨⟨u,x0⟩,xf,hI⟩:=AG H.out HS.out HN.out hp;have hq:(pre++[c]).length=p+1:=by rw[hlen,HP.out]
   rw[hq] at hI;have HI:=ae hI;have HQ:=ae hq;clear hp hI c0 cl cn hq hlen
   go_upto_region 13 with(fail)
   generalize hw3:w2.setCell ⟨db,0,none⟩ _=w3 at *
   obtain⟨d0,d1,d2,xA⟩:=HI.out;rw[HQ.out] at d0 d1 xA;have Pz:Calls Tryz.prog 95 #[.pointer (some ⟨db,0,none⟩),.int .i64 ((p:Int)+1),.int .i64 0,.string s] w3 _:=xA;have I9:=ae Pz;have hp3:(p:Int)+1<(p:Int)+1+1:=by omega
   have hp4:(0:Int)≤(p:Int)+1:=by omega
   have hpt:((p:Int)+1).toNat=p+1:=by omega
   clear xA Pz hw3 x0 xf;go_wp2_with fail
   refine I9.out.mono ?_;rintro r w4 ⟨rfl,hfin⟩;have gA:=ae hfin;clear hfin d0 d1 d2;go_wp2_with fail
   go_ret;exact⟨rfl,gA.out⟩
  ·have R6:c.ts.length<32:=by omega
   have hne:((c.ts.length:Int) == 32)=false:=by simp;omega
   have I9:=ae (show Calls Tryz.prog 95 #[.pointer (some ⟨db,0,none⟩),.int .i64 (p:Int),.int .i64 (c.ts.length:Int),.string s] w (fun r w'=>r=.returned (.tuple #[])∧∃ Co cs' j7,o9 B w' db Co cs' j7∧cO cs'=cO (pre++[c])++[s]∧Below B w w') from by
    have Gz:=H.out.cost;rw[hp];refine(Ul B db sv pre c cost s w H.out.hd H.out.row hcc R6 (hap.2 c (by simp)).1 (by omega) (by omega) (by omega) hs).mono ?_;rintro r w4 ⟨rfl,l1,l2,l3⟩;obtain⟨d1,d2⟩:=o9.laid (w:=w) (c:=c) (cost:=cost) (s:=s) H.out.b H.out.row (fun x hx=>H.out.ch x (by simp[hx])) H.out.nd hcB R6 (fun x hx=>(hap.2 x (by simp[hx])).1) ⟨hap.1,(hap.2 c (by simp)).2⟩ Gz hs l1 l2 l3
    exact⟨rfl,_,_,_,d1,d2,l3.ep (by have:=H.out.b;have:=hlt H.out.hd;omega) (fun b hb=>by simp at hb;rcases hb with rfl|rfl;exact hcB;exact H.out.b)⟩)
   obtain⟨m,hm⟩:∃ m,m=c.ts.length:=⟨_,rfl⟩;rw[←hm] at cn hne I9;clear h hs hn hap hv hpos hge c1 hrow hpe hcc hcB hcn hc0 ha hp hfull R6 hm hlen;unfold dp at HR1 ⊢;go_enter Tryz.func53,Tryz.ntmps53
   go_wp2_with fail
   refine HR1.out.mono ?_;rintro r w1 ⟨rfl,rfl⟩;go_wp2_with fail
   refine I9.out.mono ?_;rintro r w4 ⟨rfl,hfin⟩;have gA:=ae hfin;clear hfin c0 cl cn;go_wp2_with fail
   go_ret;exact⟨rfl,gA.out⟩
structure CpR (w:World) (cs:List CK) (wr:World) (n cost:Int) (k:Nat) (sv:Value) (ds:List CK):Prop where
 hd:wr.heap[w.heap.size]?=some (.cells #[sv,.int .i64 n,.int .i64 cost] 155 (0,0))
 row:bF mf 1 159 w.heap.size wr sv ds
 ch:∀ c∈ds,wr.heap[c.b]?=some (jb c.ts)∧w.heap.size≤c.b∧c.ts.length≤32
 ts:ds.map (fun c=>c.ts)=(cs.take k).map (fun c=>c.ts)
 kp:af [] w wr
structure CpS (w wr w4:World) (sv:Value) (ds:List CK) (ts:List ByteArray):Prop where
 c0:w4.cell? ⟨w.heap.size,0,none⟩=some sv
 f0:w4.frozen? ⟨w.heap.size,0,none⟩=false
 row:bF mf 1 159 w.heap.size w4 sv ds
 sz:w4.heap.size=wr.heap.size+1
 nw:w4.heap[wr.heap.size]?=some (jb ts)
 kp:af [] wr w4
theorem CpR.step {w:World} {cs:List CK} {wr w4:World} {n cost:Int} {k:Nat} {sv:Value} {ds:List CK} {ts:List ByteArray} (h:CpR w cs wr n cost k sv ds) (hw:(wr.alloc mn).setRow wr.heap.size (iw ts).toArray=w4):CpS w wr w4 sv ds ts:=by
 subst hw;have h1:((wr.alloc mn).setRow wr.heap.size (iw ts).toArray).heap[wr.heap.size]?=some (jb ts):=mZ _ _ _ _ _ _ (aG wr mn)
 have hk:af [] wr ((wr.alloc mn).setRow wr.heap.size (iw ts).toArray):=⟨rfl,rfl,rfl,by simp,fun b hb _=>(jq _ _ _ _ (by omega)).trans (Below.heap_alloc _ _ _ hb)⟩
 have h2:=hk.get h.hd (by simp);exact⟨by rw[ah h2];rfl,bC h2 0,h.row.aN hk,by simp,h1,hk⟩
theorem CpR.more {w:World} {cs:List CK} {wr w4 w5:World} {n cost:Int} {k:Nat} {sv:Value} {ds:List CK} {c:CK} {g m cap:Nat} (h:CpR w cs wr n cost k sv ds) (hs:CpS w wr w4 sv ds c.ts) (hc:cs[k]?=some c) (hl:c.ts.length≤32)
  (hp:eW mf 1 159 w.heap.size w4 w5 sv ds ⟨wr.heap.size,c.ts⟩ g m cap):
  (∃ u,w5.cell? ⟨w.heap.size,0,none⟩=some u)∧w5.frozen? ⟨w.heap.size,0,none⟩=false∧CpR w cs (w5.setCell ⟨w.heap.size,0,none⟩ (.slice (some ⟨g,0,none⟩) (m+1) cap)) n cost (k+1) (.slice (some ⟨g,0,none⟩) (m+1) cap) (ds++[⟨wr.heap.size,c.ts⟩]):=by
 have hap:sv.ownBlock≠some w.heap.size:=h.row.bw h.hd (by decide);have hwl:=hlt h.hd;have h4:=hs.kp.get h.hd (by simp);have h5:=hp.bY.get h4 (by simp;exact hap)
 have hg:g≠w.heap.size:=by
  rcases hp.at_ with e|e
  ·intro e2;rw[e2] at e;exact hap e
  ·have:=hs.sz;omega
 have Yv:∀ (b:Nat) (ts:List ByteArray),wr.heap[b]?=some (jb ts)→sv.ownBlock≠some b:=fun b ts hb=>h.row.bw hb (by decide)
 have hnew:sv.ownBlock≠some wr.heap.size:=fun e=>by have:=(h.row.lt _ e).2;omega
 refine⟨⟨_,by rw[ah h5];rfl⟩,bC h5 0,?_,?_,?_,?_,?_⟩
 ·rw[aX h5 0 _];rfl
 ·exact hp.own.bY (fun b hb=>aT _ (fun e=>hg (by simp[Value.ownBlock] at hb;rw[hb];exact e)))
 ·intro x hx
  have hne:∀ b ts,w5.heap[b]?=some (jb ts)→b≠w.heap.size:=fun b ts hb e=>by rw[e,h5] at hb;unfold jb at hb;simp at hb
  rcases bj.1 hx with hx|hx
  ·have a:=h.ch x hx;have b:=hp.bY.get (hs.kp.get a.1 (by simp)) (by simp;exact Yv x.b x.ts a.1);exact⟨(aT _ (hne x.b x.ts b)).trans b,a.2⟩
  ·simp at hx;subst hx;have b:=hp.bY.get hs.nw (by simp;exact hnew);exact⟨(aT _ (hne _ _ b)).trans b,h.kp.size,hl⟩
 ·rw[aZ,h.ts,c8,hc,aZ];rfl
 ·have:af [] w w5:=(h.kp.trans hs.kp).step hp.bY (fun b hb=>.inr (h.row.lt b (by simpa using hb)).1);exact this.setCell (p:=⟨w.heap.size,0,none⟩) (.inr (aq _)) _
theorem Fa:(Tryz.prog.info? 158).map (·.size)=some 33:=by kernel_rfl
theorem IU {ts:List ByteArray}:(iw ts).toArray.all (·.oneCell')=true:=by
 rw[me];intro v hv;simp[iw] at hv
 rcases hv with⟨a,_,rfl⟩|⟨_,rfl⟩|rfl<;>rfl
set_option maxRecDepth 8000 in
theorem Ow (B db:Nat) (sv:Value) (cs:List CK) (cost:Nat) (w:World) (h:o9 B w db sv cs cost) (hn:(cO cs).length≤1048576):
  Calls Tryz.prog 330 #[dp db] w fun r w'=>∃ ob Co ds,r=.returned (dp ob)∧w'.cell? ⟨ob,0,none⟩=some Co∧w.heap.size≤ob∧bF mf 1 159 w.heap.size w' Co ds∧(∀ c∈ds,w'.heap[c.b]?=some (jb c.ts)∧w.heap.size≤c.b∧c.ts.length≤32)∧ds.map (fun c=>c.ts)=cs.map (fun c=>c.ts)∧af [] w w':=by
 obtain⟨i9,hi9,iV,iA,im⟩:=cF Gt;have hge:=wk (cs:=cs) (fun c hc=>(h.ch c hc).2.2.2);obtain⟨a,cap,hv,_,_,_,ha⟩:=h.row.form;have hrow:=h.row;have wT:=ae (show ∀ c∈cs,w.heap[c.b]?=some (jb c.ts)∧c.ts.length≤32 from fun c hc=>⟨(h.ch c hc).1,(h.ch c hc).2.2.1⟩);have c0:w.cell? ⟨db,0,none⟩=some (.slice a cs.length cap):=by rw[ah h.hd,←hv];rfl
 have c1:w.cell? ⟨db,1,none⟩=some (.int .i64 ((cO cs).length:Int)):=by rw[ah h.hd];rfl
 have c2:w.cell? ⟨db,2,none⟩=some (.int .i64 (cost:Int)):=by rw[ah h.hd];rfl
 have hdb:=hlt h.hd;obtain⟨tn,htn⟩:∃ tn:Int,tn=((cO cs).length:Int):=⟨_,rfl⟩;obtain⟨cst,yV⟩:∃ cst:Int,cst=(cost:Int):=⟨_,rfl⟩;rw[←htn] at c1;rw[←yV] at c2;obtain⟨n,hnn⟩:∃ n,n=cs.length:=⟨_,rfl⟩;have HN:=ae hnn;rw[←hnn] at c0 hge;have hnb:n≤1048576:=by omega
 have fN:=ae (show ∀ (W:World) (k:Nat) (c:CK),af [] w W→cs[k]?=some c→∃ g,a=some ⟨g,0,none⟩∧W.cell? ⟨g,k,none⟩=some (.pointer (some ⟨c.b,0,none⟩)) from fun W k c hk hc=>by
  obtain⟨g,rfl⟩:=ha (by have:=(au.1 hc).1;omega);rw[hv] at hrow;refine⟨g,rfl,?_⟩;have:=bF.cell (enc:=mf) (fun _=>rfl) (hrow.aN hk) hc (j:=0) (u:=dp c.b) rfl
  rwa [bB,Nat.add_zero] at this)
 have HCZ:=ae (fun(W:World) (hk:af [] w W)=>ak hk c0);have kH:=ae (LN w);have hne:db≠w.heap.size:=by omega
 clear h hv hrow ha htn yV hnn hge hn;unfold dp at kH ⊢;go_enter Tryz.func330,Tryz.ntmps330
 go_wp2_with fail
 refine kH.out.mono ?_;rintro r w1 ⟨rfl,hw1⟩;have hh:w1.heap[w.heap.size]?=some (.cells #[.slice none 0 0,.int .i64 0,.int .i64 0] 155 (0,0)):=by rw[←hw1];exact aG w _
 have k1:af [] w w1:=by rw[←hw1];exact(af.refl _ w).alloc _
 have d0:=ak k1 c0;have d1:=ak k1 c1;have d2:=ak k1 c2;have x1:w1.cell? ⟨w.heap.size,1,none⟩=some (.int .i64 0):=by rw[ah hh];rfl
 have x2:w1.cell? ⟨w.heap.size,2,none⟩=some (.int .i64 0):=by rw[ah hh];rfl
 have y1:w1.frozen? ⟨w.heap.size,1,none⟩=false:=bC hh 1;have y2:w1.frozen? ⟨w.heap.size,2,none⟩=false:=bC hh 2;have HH:=ae hh;have K1:=ae k1;clear hw1 hh k1 c0 c1 c2;go_wp2_with fail
 go_region
 have Ea:Hid (CpR w cs ((w1.setCell ⟨w.heap.size,1,none⟩ (.int .i64 tn)).setCell ⟨w.heap.size,2,none⟩ (.int .i64 cst)).drew tn cst 0 (.slice none 0 0) []):=ae ⟨by
   show((w1.setCell ⟨w.heap.size,1,none⟩ (.int .i64 tn)).setCell ⟨w.heap.size,2,none⟩ (.int .i64 cst)).heap[w.heap.size]?=_
   rw[aX (aX HH.out 1 _) 2 _];rfl,bF.nil _ _ _ _ _,by simp,by simp,((K1.out.setCell (p:=⟨w.heap.size,1,none⟩) (.inr (aq _)) _).setCell (p:=⟨w.heap.size,2,none⟩) (.inr (aq _)) _).drew⟩
 generalize ((w1.setCell ⟨w.heap.size,1,none⟩ (.int .i64 tn)).setCell ⟨w.heap.size,2,none⟩ (.int .i64 cst)).drew=w2 at *
 have e0:w2.cell? ⟨db,0,none⟩=some (.slice a n cap):=by exact HCZ.out w2 Ea.out.kp
 clear d0 d1 d2 x1 x2 y1 y2;go_wp2_with fail
 go_loopw [30,5,6] (fun i _ _ wr=>∃ k:Nat,i=.int .i64 (k:Int)∧k≤n∧Hid (∃ Co ds,CpR w cs wr tn cst k Co ds)) (fun i _ _ _=>n-(intOf i).toNat)
 case atStart=>exact⟨0,rfl,bz _,ae ⟨_,_,Ea.out⟩⟩
 case round=>
  obtain⟨k,rfl,hk,HV⟩:=hrel;clear e0;obtain⟨TQ,ds,hv⟩:=HV.out;have Vr:=ae hv
  by_cases hlt:k<n
  ·obtain⟨c,hc⟩:∃ c,cs[k]?=some c:=⟨_,ag (by rw[←HN.out];exact hlt)⟩;obtain⟨g,rfl,hcl⟩:=fN.out wr k c hv.kp hc;obtain⟨hck,hcn⟩:=wT.out c (aB hc);have MW:Hid (wr.heap[c.b]?=some (.cells (iw c.ts).toArray 158 (0,0))):=ae (hv.kp.get hck (by simp));have HLEN:=ae (show(Tryz.prog.info? 158).map (·.size)=some (iw c.ts).toArray.size by rw[Fa];simp[oR hcn]);have hkn:(k:Int)<(n:Int):=by omega
   have Ws:=ae hc;have HCN:=ae hcn;have HZZ:Hid ((wr.alloc (.cells #[.string ⟨#[]⟩,.string ⟨#[]⟩,.string ⟨#[]⟩,.string ⟨#[]⟩,.string ⟨#[]⟩,.string ⟨#[]⟩,.string ⟨#[]⟩,.string ⟨#[]⟩,.string ⟨#[]⟩,.string ⟨#[]⟩,.string ⟨#[]⟩,.string ⟨#[]⟩,.string ⟨#[]⟩,.string ⟨#[]⟩,.string ⟨#[]⟩,.string ⟨#[]⟩,.string ⟨#[]⟩,.string ⟨#[]⟩,.string ⟨#[]⟩,.string ⟨#[]⟩,.string ⟨#[]⟩,.string ⟨#[]⟩,.string ⟨#[]⟩,.string ⟨#[]⟩,.string ⟨#[]⟩,.string ⟨#[]⟩,.string ⟨#[]⟩,.string ⟨#[]⟩,.string ⟨#[]⟩,.string ⟨#[]⟩,.string ⟨#[]⟩,.string ⟨#[]⟩,.int .i64 0] 158)).heap[wr.heap.size]?=some (.cells #[.string ⟨#[]⟩,.string ⟨#[]⟩,.string ⟨#[]⟩,.string ⟨#[]⟩,.string ⟨#[]⟩,.string ⟨#[]⟩,.string ⟨#[]⟩,.string ⟨#[]⟩,.string ⟨#[]⟩,.string ⟨#[]⟩,.string ⟨#[]⟩,.string ⟨#[]⟩,.string ⟨#[]⟩,.string ⟨#[]⟩,.string ⟨#[]⟩,.string ⟨#[]⟩,.string ⟨#[]⟩,.string ⟨#[]⟩,.string ⟨#[]⟩,.string ⟨#[]⟩,.string ⟨#[]⟩,.string ⟨#[]⟩,.string ⟨#[]⟩,.string ⟨#[]⟩,.string ⟨#[]⟩,.string ⟨#[]⟩,.string ⟨#[]⟩,.string ⟨#[]⟩,.string ⟨#[]⟩,.string ⟨#[]⟩,.string ⟨#[]⟩,.string ⟨#[]⟩,.int .i64 0] 158 (0,0))):=ae (aG wr _)
   have HOLD:=ae (show((#[.string ⟨#[]⟩,.string ⟨#[]⟩,.string ⟨#[]⟩,.string ⟨#[]⟩,.string ⟨#[]⟩,.string ⟨#[]⟩,.string ⟨#[]⟩,.string ⟨#[]⟩,.string ⟨#[]⟩,.string ⟨#[]⟩,.string ⟨#[]⟩,.string ⟨#[]⟩,.string ⟨#[]⟩,.string ⟨#[]⟩,.string ⟨#[]⟩,.string ⟨#[]⟩,.string ⟨#[]⟩,.string ⟨#[]⟩,.string ⟨#[]⟩,.string ⟨#[]⟩,.string ⟨#[]⟩,.string ⟨#[]⟩,.string ⟨#[]⟩,.string ⟨#[]⟩,.string ⟨#[]⟩,.string ⟨#[]⟩,.string ⟨#[]⟩,.string ⟨#[]⟩,.string ⟨#[]⟩,.string ⟨#[]⟩,.string ⟨#[]⟩,.string ⟨#[]⟩,.int .i64 0]:Array Value)).size=(iw c.ts).toArray.size by simp[oR hcn]);clear hc hck hcn hv;obtain⟨sa,Nn,hsv,_,_,_,_⟩:=Vr.out.row.form;have Vu:=ae hsv
   have ZE:=ae (show ds.length=k from by
    have:=congrArg List.length Vr.out.ts;simp at this;have hl:=(au.1 Ws.out).1
    omega)
   have xG:TQ=.slice sa k Nn:=by rw[hsv,ZE.out]
   clear hsv;go_wp2_with (first|(refine kV rfl 158 _ rfl c.b rfl _ (iw c.ts).toArray (0,0) _ MW.out Tryz.underlying158 rfl HLEN.out ?_)|(refine wpList_store_row rfl 158 _ _ rfl wr.heap.size (iw c.ts).toArray rfl rfl _ _ HZZ.out HLEN.out HOLD.out IU ?_;generalize hw4:World.setRow _ wr.heap.size (iw c.ts).toArray=w4;have Vw:Hid (CpS w wr w4 TQ ds c.ts):=ae (Vr.out.step hw4);have g0:=Vw.out.c0;have z0:=Vw.out.f0;rw[Vu.out,ZE.out] at g0;have Vx:Hid (bF mf 1 159 w.heap.size w4 (.slice sa k Nn) ds):=ae (by rw[←xG];exact Vw.out.row);have G6:Hid (w.heap.size≤w4.heap.size):=ae (aF Vr.out.kp.size Vw.out.kp.size);clear hw4 hcl)|(at_builtin;refine gV rfl _ _ 153 rfl mf 1 159 w.heap.size i9 (.pointer none) 8 Tryz.underlying153 hi9 iV iA im rfl Fk (.slice sa k Nn) k ds ⟨wr.heap.size,c.ts⟩ rfl Vx.out ZE.out.symm 159 rfl 1 rfl (by unfold maxLen;omega) (by omega) G6.out ?_;intro g2 cap2 w5 hp;rw[←xG] at hp;obtain⟨⟨u5,x5⟩,z5,hm⟩:=Vr.out.more Vw.out Ws.out HCN.out hp;have HM:=ae hm;clear hp hm g0 z0))
   go_roundw
   case rel=>exact⟨k+1,by go_num,by omega,ae ⟨_,_,HM.out⟩⟩
   case measure=>simp[intOf];omega
  ·obtain rfl:k=n:=by omega
   go_wp2_with fail
   go_ret;have h1:=hv.hd;refine⟨w.heap.size,TQ,ds,rfl,by rw[ah h1];rfl,aq _,hv.row,hv.ch,?_,hv.kp⟩;rw[hv.ts,HN.out,fA]
end jw
end Go.Proofs.YthpdlidbaojlbaaGreatDoor
