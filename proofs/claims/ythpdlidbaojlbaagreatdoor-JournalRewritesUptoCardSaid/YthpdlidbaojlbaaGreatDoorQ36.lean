/- value.Of: the value that plain data make. -/
import Derived.Test.YthpdlidbaojlbaaGreatDoorQ35
set_option linter.unusedVariables false
set_option linter.unusedSimpArgs false
set_option maxHeartbeats 4000000
open Go.ChangeShapes Go.WideShapes Go.RowKit
namespace Go.Proofs.YthpdlidbaojlbaaGreatDoor
namespace jw.kd
open ks (af ae hlt ah bC alloc_old aG aX aT dp DM DE bu TabIs ptr fJ lq)
open rk (Fl fk gN lbR qv j9)
attribute [local go_sem] gR
variable {B:Nat} {w w':World} {rb db:Nat} {D:DM Nat} {cost:Nat} {sv:Value} {row ps:List (ByteArray×Nat)}
structure Mid (B:Nat) (w1 wx:World) (rb db seed cost:Nat) (sv v':Value) (l':List (ByteArray×Nat)):Prop where
 own:bF dN 2 54 B wx v' l'
 bY:af (rb::sv.ownBlock.toList) w1 wx
 hd:wx.heap[rb]?=some (.cells #[.int .u64 (seed:Int),dp db,v',.int .i64 (cost:Int)] 186 (0,0))
 at_:∀ g,v'.ownBlock=some g→sv.ownBlock=some g∨w1.heap.size≤g
theorem TU {w1 w6:World} {v':Value} {l':List (ByteArray×Nat)} (h1:jO B w1 rb db D cost sv row ps) (ho:bF dN 2 54 B w6 v' l') (hk:af sv.ownBlock.toList w1 w6) (hat:∀ g,v'.ownBlock=some g→sv.ownBlock=some g∨w1.heap.size≤g):
  Mid B w1 (w6.setCell ⟨rb,2,none⟩ v') rb db D.seed cost sv v' l':=by
 have hrb:=hlt h1.hd;have h6:=hk.get h1.hd (fun hm=>by simp at hm;exact(h1.sep rb hm).1 rfl)
 have hne:∀ b,v'.ownBlock=some b→b≠rb:=fun b hb=>by
  rcases hat b hb with h|h
  ·exact(h1.sep b h).1
  ·omega
 exact⟨ho.bY (fun b hb=>aT (b:=b) _ (hne b hb)),(hk.mono (by simp_all)).setCell (p:=⟨rb,2,none⟩) (.inl (by simp)) _,by rw[aX h6 2 _];rfl,hat⟩
theorem Qq {w1 wc w8:World} {v':Value} {k:ByteArray} {x tb nb:Nat} (h1:jO B w1 rb db D cost sv row ps) (hm:Mid B w1 wc rb db D.seed cost sv v' (qv row (k,x))) (hk:∀ p∈ps,p.1≠k) (hks:k.size≤1048576) (hx:Fl x)
  (hd:bu dty w8 db (D.set k x tb nb)) (zy:af (D.blocks db) wc w8) (Cp:∀ b∈(D.set k x tb nb).blocks db,b∈D.blocks db∨wc.heap.size≤b):
  jO B (w8.setCell ⟨rb,3,none⟩ (.int .i64 ((cost+(40+k.size):Nat):Int))) rb db (D.set k x tb nb) (cost+(40+k.size)) v' (qv row (k,x)) (ps++[(k,x)]):=by
 obtain⟨s1,s2,s3⟩:=sd.AZ h1.wf x tb nb (h1.new hk);have hrb:=hlt h1.hd;have hsz:=hm.bY.size;have h8:=zy.get hm.hd h1.ne
 have N3:∀ b,v'.ownBlock=some b→b≠rb∧b∉D.blocks db:=fun b hb=>by
  rcases hm.at_ b hb with h|h
  ·exact h1.sep b h
  ·exact⟨by omega,fun hm2=>by have:=h1.d.lt b hm2;omega⟩
 have hne:∀ y∈row,gN y (k,x)≠0:=fun y hy e=>hk y (h1.perm.mem_iff.1 hy) (rk.wE.1 e).2
 have UO:rb∉(D.set k x tb nb).blocks db:=fun hb=>by
  rcases Cp rb hb with h|h
  ·exact h1.ne h
  ·have:=hlt hm.hd;omega
 refine⟨?_,hd.keeps ((af.refl [rb] w8).setCell (p:=⟨rb,3,none⟩) (.inl (by simp)) _) (fun b hb hm2=>by simp at hm2;exact UO (hm2 ▸ hb)),s1,?_,h1.b,UO,?_,?_,rk.uF row (k,x) h1.CH hne,?_,?_,?_,?_⟩
 ·rw[aX h8 3 _,s3];rfl
 ·intro b hb
  rcases Cp b hb with h|h
  ·exact h1.lo b h
  ·exact aF h1.low (aF hsz h)
 ·refine(s2.map _).trans ?_;rw[bP,aZ];exact((oY _).2 h1.keys).trans (fq _ _).symm
 ·exact(hm.own.keeps zy (fun b hb=>(N3 b hb).2)).bY (fun b hb=>aT (b:=b) _ (N3 b hb).1)
 ·exact(rk.qu row (k,x)).trans (((oY _).2 h1.perm).trans (fq _ _).symm)
 ·intro y hy
  rcases rk.vx.1 hy with rfl|hy
  ·exact hx
  ·exact h1.num y hy
 ·intro b hb;refine⟨(N3 b hb).1,fun hm2=>?_⟩
  rcases Cp b hm2 with h|h
  ·exact(N3 b hb).2 h
  ·have:=(hm.own.lt b hb).2;omega
 ·have:=h1.cost;rw[aM,List.length_singleton];omega
set_option maxRecDepth 100000 in
theorem Qo (h:jO B w rb db D cost sv row ps) (k:ByteArray) (x:Nat) (hk:∀ p∈ps,p.1≠k) (hks:k.size≤1048576) (hx:Fl x) (hn:ps.length<1048576):
  Calls Tryz.prog 62 #[dp rb,.string k,.float .f64 x] w fun r w'=>(∃ u,r=.returned u)∧∃ D' j7 Co row',jO B w' rb db D' j7 Co row' (ps++[(k,x)])∧Below B w w':=by
 have H:=ae h;have MC:=ae hk;have c1:=h.c1;have hml:k.size≤maxLen:=by unfold maxLen;omega
 have zz:=ae hml;have vX:=ae (ks.fd.Lx db D k w h.wf h.d hml);rw[h.find hk] at vX;have O5:=ae (fun W=>fl.wI x false W (by rw[Kt x hx.lt];exact eK (by have:=hx.n;omega)));have HX:=ae hx;have xW:=ae hn;have MA:=ae hks;have yV:=h.cost;have Ws:=ae (show cost≤2199023255552 from by omega);have hB:=h.low;have HB:=ae hB;clear h hk hx yV hB;unfold dp at c1 vX ⊢;unfold ks.fd.Dx at vX;go_enter Tryz.func62,Tryz.ntmps62
 go_wp2_with fail
 refine vX.out.mono ?_;rintro r w1 ⟨rfl,hd1,hk1⟩;have h1:=H.out.uZ hd1 hk1;have hb1:Below B w w1:=hk1.ep HB.out H.out.lo;have H1:=ae h1;have HB1:=ae hb1;obtain⟨va,fD,hsv,-⟩:=h1.own.form;have hrn:row.length=ps.length:=h1.rn;obtain⟨m,hm⟩:∃ m,m=row.length:=⟨_,rfl⟩;rw[←hm] at hsv;have X6:(m:Int)<1048576:=by omega
 have hmd:decide ((1048576:Int)≤(m:Int))=false:=by simp;omega
 have d1:=h1.c1;have d2:=h1.c2;have d3:=h1.c3;rw[hsv] at d2;obtain⟨W,hW⟩:∃ W,W=w1.alloc (.cells #[.string k,.float .f64 x] 54):=⟨_,rfl⟩;have HW:=ae hW;have Vu:=ae hsv;have HM:=ae hm;unfold dp at d1;have HMD:=ae hmd;have HD:=ae (And.intro d1 (And.intro d2 d3));clear h1 hb1 hd1 hk1 c1 hrn hm hsv hn hW hml hmd X6 d1 d2 d3;go_wp2_with fail
 refine(O5.out _).mono ?_;rintro r w2 ⟨rfl,rfl⟩;obtain⟨d1,d2,d3⟩:=HD.out;have hmd:=HMD.out
 go_upto_region 10 with(fail)
 go_upto_region 14 with(fail)
 go_upto_region 15 with(fail)
 have hbx:W.heap[w1.heap.size]?=some (.cells #[.string k,.float .f64 x] 54 (0,0)):=by rw[HW.out];exact aG w1 _
 have hkW:af [] w1 W:=by rw[HW.out];exact(af.refl _ w1).alloc _
 rw[←HW.out];have b0:W.cell? ⟨w1.heap.size,0,none⟩=some (.string k):=by rw[ah hbx];rfl
 have b1:W.cell? ⟨w1.heap.size,1,none⟩=some (.float .f64 x):=by rw[ah hbx];rfl
 have p2:=ak hkW d2;have q2:W.frozen? ⟨rb,2,none⟩=false:=bC (hkW.get H1.out.hd (by simp)) 2;have kK:=ae hkW;have vV:=ae (fun(X:World) (hk:af [] W X)=>JT (H1.out.aN (hkW.trans hk)) (bW xW.out) (k,x) HX.out);obtain⟨li,Wd⟩:∃ li,li=lbR row (k,x):=⟨_,rfl⟩;have UI:li≤row.length:=by rw[Wd];exact rk.Rw row (k,x)
 have Ja:=ae (fun(X:World) (b:Nat) (hk:af [] W X) (hb:X.heap[b]?=some (.cells #[.string k,.float .f64 x] 54 (0,0))) (hbl:W.heap.size≤b)=>KY B li b sv row (k,x) X (H1.out.aN (hkW.trans hk)).own (aF H1.out.low (aF hkW.size hk.size)) (by rw[H1.out.rn];exact bW xW.out) UI hb (fun e=>by have:=(H1.out.own.lt b e).2;have:=hkW.size;omega))
 have hlo:=hlt H1.out.hd
 have HFR:=ae (show ∀ (X X':World) (v':Value) (l':List (ByteArray×Nat)),af [] W X→Ms B X X' sv v' l'→af sv.ownBlock.toList w1 X'∧X'.heap[rb]?=W.heap[rb]?∧(∀ g,v'.ownBlock=some g→sv.ownBlock=some g∨w1.heap.size≤g) from fun X X' v' l' hk hI=>⟨((hkW.trans hk).mono (by simp)).trans hI.bY,(hI.bY.block rb (by have:=hkW.size;have:=hk.size;omega) (fun hm=>by simp at hm;exact(H1.out.sep rb hm).1 rfl)).trans (hk.block rb (by have:=hkW.size;omega) (by simp)),fun g hg=>(hI.at_ g hg).imp id (fun h=>aF hkW.size (aF hk.size h))⟩)
 rw[Vu.out] at Ja HFR;unfold mV at vV;unfold dp at vV;rw[←Wd] at vV;simp only at vV;have HLI:=ae Wd;have HHW:=ae (hkW.get H1.out.hd (by simp));have n0:∀ o:Obj,(W.alloc o).cell? ⟨w1.heap.size,0,none⟩=some (.string k):=fun o=>ak ((af.refl [] W).alloc o) b0
 have n1:∀ o:Obj,(W.alloc o).cell? ⟨w1.heap.size,1,none⟩=some (.float .f64 x):=fun o=>ak ((af.refl [] W).alloc o) b1
 have n2:∀ o:Obj,(W.alloc o).cell? ⟨rb,2,none⟩=some (.slice va m fD):=fun o=>ak ((af.refl [] W).alloc o) p2
 have n3:∀ o:Obj,(W.drew.alloc o).cell? ⟨w1.heap.size,0,none⟩=some (.string k):=n0;have n4:∀ o:Obj,(W.drew.alloc o).cell? ⟨w1.heap.size,1,none⟩=some (.float .f64 x):=n1;have n5:∀ o:Obj,(W.drew.alloc o).cell? ⟨rb,2,none⟩=some (.slice va m fD):=n2;clear hbx hkW Wd UI hlo
 go_cut [] (fun wx=>∃ v':Value,Hid (Mid B w1 wx rb db D.step.seed cost sv v' (row.take li++(k,x)::row.drop li)))
 case first=>as_aux_lemma=>
  go_region_law (first
   | (go_simp;go_at_call 109;refine(vV.out _ (by first|exact(af.refl _ _).drew|exact((af.refl _ _).drew).alloc _)).mono ?_;rintro r w5 ⟨rfl,hk5⟩;have k5:af [] W w5:=(show af [] W _ by first|exact(af.refl _ _).drew|exact((af.refl _ _).drew).alloc _).trans hk5;have s0:=ak k5 b0;have s1:=ak k5 b1;have s2:=ak k5 p2;have s3:∀ o:Obj,(w5.alloc o).cell? ⟨w1.heap.size,0,none⟩=some (.string k):=fun o=>ak ((af.refl [] w5).alloc o) s0;have s4:∀ o:Obj,(w5.alloc o).cell? ⟨w1.heap.size,1,none⟩=some (.float .f64 x):=fun o=>ak ((af.refl [] w5).alloc o) s1;have s5:∀ o:Obj,(w5.alloc o).cell? ⟨rb,2,none⟩=some (.slice va m fD):=fun o=>ak ((af.refl [] w5).alloc o) s2;have K5:=ae k5;(try have ZZ:=ae (hk5.get (aG W.drew _) (by simp)));clear hk5 k5)
   | (go_simp;go_at_call 108;refine(Ja.out _ _ (by first|exact K5.out|exact K5.out.alloc _) (by first|exact aG _ _|exact ZZ.out) (by first|exact aq _|exact K5.out.size)).mono ?_;rintro r w6 ⟨v',rfl,hI⟩;have HI:=ae hI;have HF:=ae (HFR.out _ _ _ _ (by first|exact K5.out|exact K5.out.alloc _) hI);have t2:w6.cell? ⟨rb,2,none⟩=some (.slice va m fD):=(ez (a:=⟨rb,2,none⟩) HF.out.2.1).trans p2;have t3:w6.frozen? ⟨rb,2,none⟩=false:=(rJ (a:=⟨rb,2,none⟩) HF.out.2.1).trans q2;obtain⟨a',c',hv',-⟩:=hI.own.form;obtain⟨nl,hnl⟩:∃ nl,nl=(row.take li++(k,x)::row.drop li).length:=⟨_,rfl⟩;rw[←hnl] at hv';clear hnl;subst hv';clear hI))
  all_goals
   clear b0 b1 p2 q2 d1 d2 d3 n0 n1 n2 n3 n4 n5 s0 s1 s2 s3 s4 s5 t2 t3;go_wp2_with fail
   go_meet;exact⟨_,ae (TU H1.out HI.out.own (by rw[Vu.out];exact HF.out.1) (by rw[Vu.out];exact HF.out.2.2))⟩
 case rest=>
  obtain⟨v',VJ⟩:=hcut;have hm0:=VJ.out;rw[HLI.out] at hm0;have D6:=ae (show Mid B w1 wc rb db D.step.seed cost sv v' (qv row (k,x)) from hm0);have e1:wc.cell? ⟨rb,1,none⟩=some (.pointer (some ⟨db,0,none⟩)):=by rw[ah hm0.hd];rfl
  have hdc:bu dty wc db D.step:=H1.out.d.keeps hm0.bY (fun b hb hm=>by
   rcases bM.1 hm with rfl|hm
   ·exact H1.out.ne hb
   ·exact(H1.out.sep b (by simpa using hm)).2 hb)
  have l9:=ae (ks.fd.JL db D.step k x wc H1.out.wf hdc zz.out (by have:=H1.out.n;have:=xW.out;omega))
  have Th:=ae (show Below B w1 wc from hm0.bY.ep H1.out.low (fun b hb=>by
   rcases bM.1 hb with rfl|hb
   ·exact H1.out.b
   ·exact(H1.out.own.lt b (by simpa using hb)).1))
  unfold dp at l9;clear hm0 hdc d1 d2 d3 b0 b1 p2 q2 n0 n1 n2 n3 n4 n5 VJ;go_wp2_with fail
  refine l9.out.mono ?_;rintro r w8 ⟨b,tb,nb,rfl,hd8,zy,Cp⟩;have h8:=zy.get D6.out.hd H1.out.ne;have g3:w8.cell? ⟨rb,3,none⟩=some (.int .i64 (cost:Int)):=by rw[ah h8];rfl
  have k3:w8.frozen? ⟨rb,3,none⟩=false:=bC h8 3;have HD8:=ae hd8;have Cr:=ae zy;have HB8:=ae Cp;have hct:cost≤2097152*1048576:=Ws.out;clear e1 hd8 zy Cp h8;go_wp2_with fail
  go_ret2
  have gA:=Qq H1.out D6.out MC.out MA.out HX.out HD8.out Cr.out HB8.out;refine⟨⟨_,rfl⟩,_,_,_,_,gA,?_⟩;exact((HB1.out.trans Th.out).trans (Cr.out.ep (aF H1.out.low Th.out.size) H1.out.lo)).trans (((af.refl [rb] w8).setCell (p:=⟨rb,3,none⟩) (.inl (by simp)) _).ep (aF H1.out.low (aF Th.out.size Cr.out.size)) (fun c hc=>by simp at hc;rw[hc];exact H1.out.b))
end jw.kd
namespace jw
open ks (af ae hlt ah bC alloc_old aG aX aT dp DM)
open rk (j9)
variable {B:Nat} {w w':World} {rb db:Nat} {D:DM Nat} {cost:Nat} {sv:Value} {row ps:List (ByteArray×Nat)}
set_option maxRecDepth 100000 in
theorem JS (h:kd.jO B w rb db D cost sv row ps) (hn:ps.length≤1048576):
  Calls Tryz.prog 398 #[dp rb,.int .i64 0,.int .i64 (ps.length:Int)] w fun r w'=>∃ v,r=.returned v∧bF dN 2 54 w.heap.size w' v row∧af [] w w':=by
 obtain⟨i9,hi9,iV,iA,im⟩:=cF vA;have HL:=ae (kd.Ev h);have HR:=ae (h.own.row nI);obtain⟨va,fD,hv,hcp,_,_,hva⟩:=h.own.form;have c2:=h.c2;have hrn:=h.rn;rw[hv,hrn] at c2;rw[hv,hrn] at HR;rw[hrn] at hcp hva;have S4:=ae hrn;obtain⟨n,hpn⟩:∃ n,ps.length=n:=⟨_,rfl⟩;rw[hpn] at HL HR c2 hn hcp hva S4 ⊢;unfold dp at HL ⊢;have HCP:=ae hcp;have Ji:=ae hva;have HN:=ae hn;clear h hv hrn hpn hcp hva
 by_cases hn0:n=0
 ·subst hn0;have hr0:row=[]:=bU.1 S4.out;go_enter Tryz.func398,Tryz.ntmps398
  go_wp2_with fail
  refine HL.out.mono ?_;rintro r w2 ⟨rfl,rfl⟩;go_wp2_with fail
  go_ret;exact⟨_,rfl,by rw[hr0];exact bF.nil _ _ _ _ _,af.refl _ _⟩
 ·obtain⟨g,rfl⟩:=Ji.out (by omega);have hpos:(0:Int)<(n:Int):=by omega
  go_enter Tryz.func398,Tryz.ntmps398
  go_wp2_with fail
  refine HL.out.mono ?_;rintro r w2 ⟨rfl,rfl⟩;go_wp2_with (at_builtin;refine iP rfl _ _ 34 rfl dN 2 54 w.heap.size i9 (.agg #[.string ⟨#[]⟩,.float .f64 0]) 24 Tryz.underlying34 hi9 iV iA im rfl mF (.slice none 0 0) [] row _ rfl (bF.nil _ _ _ _ _) rfl HR.out (by have:=HN.out;rw[S4.out];unfold maxLen;simp;omega) (by have:=HN.out;rw[S4.out];simp;omega) (aq _) ?_;intro v' w3 hp;have HP:=ae hp;clear hp)
  obtain⟨a',c',rfl,_⟩:=HP.out.own.form;go_ret;refine⟨_,rfl,?_,HP.out.bY⟩;have:=HP.out.own
  rwa [List.nil_append] at this
theorem C2 (h:kd.jO B w rb db D cost sv row ps):Calls Tryz.prog 394 #[.agg #[dp rb]] w fun r w'=>r=.returned (.bool (decide (ps.length=0)))∧af [] w w':=by
 have HL:=ae (kd.Ev (h.aN ((af.refl _ w).alloc (.cells #[dp rb] 193))));have hk:=ae ((af.refl [] w).alloc (.cells #[dp rb] 193));obtain⟨n,hn⟩:∃ n,ps.length=n:=⟨_,rfl⟩;rw[hn] at HL ⊢;unfold dp at HL hk ⊢;clear h hn;go_enter Tryz.func394,Tryz.ntmps394
 go_wp2_with fail
 refine HL.out.mono ?_;rintro r w2 ⟨rfl,rfl⟩;go_wp2_with fail
 go_ret;refine⟨?_,hk.out⟩;have e:((n:Int) == 0)=decide (n=0):=by rw[eL];simp
 rw[←e];rfl
set_option maxRecDepth 100000 in
theorem C1 (ob k:Nat) (t:ByteArray) (iv pv:Value) (h:kd.jO B w rb db D cost sv row ps) (hn:ps.length≤1048576) (ho:w.heap[ob]?=some (uS k t iv pv (.slice none 0 0))):
  Calls Tryz.prog 396 #[.agg #[dp rb],dp ob] w fun r w'=>r=.returned (.tuple #[])∧∃ v,w'.heap[ob]?=some (uS k t iv pv v)∧bF dN 2 54 w.heap.size w' v row∧af [ob] w w':=by
 obtain⟨W,hW⟩:∃ W,W=w.alloc (.cells #[dp rb] 193):=⟨_,rfl⟩;have hbx:W.heap[w.heap.size]?=some (.cells #[dp rb] 193 (0,0)):=by rw[hW];exact aG w _
 have hkW:af [] w W:=by rw[hW];exact(af.refl _ w).alloc _
 have kN:=ae (fun X (hk:af [] W X)=>kd.Ev (h.aN (hkW.trans hk)));have Zt:=ae (fun X (hk:af [] W X)=>JS (h.aN (hkW.trans hk)) hn);have zI:=hlt ho;have hoW:=hkW.get ho (by simp);have e0:W.cell? ⟨w.heap.size,0,none⟩=some (.pointer (some ⟨rb,0,none⟩)):=by rw[ah hbx];rfl
 have HOW:=ae hoW;have kK:=ae hkW;have HHW:=ae hW;have hne:w.heap.size≠ob:=by omega
 have hset:=ae (show ∀ (X:World) (u v:Value),X.cell? ⟨w.heap.size,0,none⟩=some u→(X.setCell ⟨ob,4,none⟩ v).cell? ⟨w.heap.size,0,none⟩=some u from fun X u v h=>(ez (a:=⟨w.heap.size,0,none⟩) (aT v hne)).trans h);have HOB:=ae zI;obtain⟨n,hpn⟩:∃ n,ps.length=n:=⟨_,rfl⟩;rw[hpn] at kN Zt;unfold dp at kN Zt hW ⊢;clear h hn ho hbx hkW hoW hpn zI hne;go_enter Tryz.func396,Tryz.ntmps396
 go_upto_region 1 with(fail)
 rw[←hW];clear hW
 go_region_held3 (fun w'=>w'.cell? ⟨w.heap.size,0,none⟩=some (.pointer (some ⟨rb,0,none⟩))) (first|exact e0|exact q0|exact hset.out _ _ _ q0|(go_keep;done)) ((first|(go_at_call 397;refine(kN.out _ ((af.refl _ _).drew)).mono ?_;rintro r w2 ⟨rfl,rfl⟩)|(go_at_call 398;refine(Zt.out _ ((af.refl _ _).drew)).mono ?_;rintro r w3 ⟨v,rfl,hv,hk3⟩;have k3:af [] W w3:=((af.refl [] W).drew).trans hk3;have q0:=ak k3 e0;have o3:=k3.get HOW.out (by simp);have c4:w3.cell? ⟨ob,4,none⟩=some (.slice none 0 0):=(by rw[ah o3];rfl);have f4:w3.frozen? ⟨ob,4,none⟩=false:=bC o3 4;have TC:=ae o3;have HV:=ae hv;have K3:=ae k3;obtain⟨va,fD,hvv,-⟩:=hv.form;obtain⟨nl,hnl⟩:∃ nl,nl=row.length:=⟨_,rfl⟩;rw[←hnl] at hvv;have ZC:=ae hnl;subst hvv;clear hv hk3 k3 o3 hnl)))
 go_wp2_with fail
 go_end0
 have Gu:∀ b,(Value.slice va nl fD).ownBlock=some b→b≠ob:=fun b hb e=>by have:=(HV.out.lt b hb).1;have:=HOB.out;have h5:W.drew.heap.size=W.heap.size:=rfl;have:=kK.out.size;omega
 refine⟨rfl,_,?_,(HV.out.Bb (fun b hb=>by have:=(HV.out.lt b hb).1;have h5:W.drew.heap.size=W.heap.size:=rfl;have:=kK.out.size;omega)).bY (fun b hb=>aT (b:=b) _ (Gu b hb)),((kK.out.trans K3.out).mono (by simp)).setCell (p:=⟨ob,4,none⟩) (.inl (by simp)) _⟩;rw[aX TC.out 4 _];rfl
end jw
namespace jw
open ks (af ae hlt ah bC alloc_old aG aX aT dp DM)
attribute [local go_sem] gR
def AI (w:World) (vb:Nat) (p:cG):Prop:=
 (p.kind=1∧w.heap[vb]?=some (gP 152 (.string p.text)))∨
 (p.kind=2∧∃ B db sv cs cost,w.heap[vb]?=some (gP 163 (.agg #[dp db]))∧o9 B w db sv cs cost∧cO cs=p.items)∨
 (p.kind=3∧∃ B rb db D cost,w.heap[vb]?=some (gP 173 (.agg #[dp rb]))∧sd.kb B w rb db D cost p.bL)∨
 (p.kind=4∧∃ B rb db D cost,w.heap[vb]?=some (gP 182 (.agg #[dp rb]))∧ed.nO B w rb db D cost p.items)∨
 (p.kind=5∧∃ B rb db D cost sv row,w.heap[vb]?=some (gP 193 (.agg #[dp rb]))∧kd.jO B w rb db D cost sv row p.bI)
theorem yF {α:Type} {f:α→ByteArray} {l:List α} (hn:(l.map f).Nodup) {k:Nat} {x:α} (hx:l[k]?=some x):∀ y∈l.take k,f y≠f x:=by intro y hy e;have h:=sd.lH hx;rw[h,aZ,bP,bQ] at hn;exact hn.2.2 (f y) (aV.2 ⟨y,hy,rfl⟩) (f x) (by simp) e
theorem jZ {α:Type} {l:List α} {k:Nat} {x:α} (h:l[k]?=some x):l.take (k+1)=l.take k++[x]:=by rw[c8,h];rfl
def OfR (p:cG) (w:World) (r:Ending) (w':World):Prop:=
 (∃ e:Int,e≠0∧¬OkP p∧r=.returned (.tuple #[.pointer none,.int .i64 e])∧af [] w w')∨
 (OkP p∧∃ vb,r=.returned (.tuple #[dp vb,.int .i64 0])∧AI w' vb p∧af [] w w')
theorem NZ:(Tryz.prog.info? 36).map (·.size)=some 5:=by kernel_rfl
theorem Jr (p:cG) (iv pv rv:Value) (w:World) (hsm:jz p) (hfl:∀ x∈p.bI,x.2<18446744073709551616) (hi:eh b9 1 w iv p.items) (hp:eh gJ 2 w pv p.bL) (hr:eh dN 2 w rv p.bI):
  Calls Tryz.prog 50 #[.agg #[.int .i64 p.kind,.string p.text,iv,pv,rv]] w fun r w'=>(∃ e:Int,r=.returned (.int .i64 e)∧(e=0↔OkP p))∧af [] w w':=by
 by_cases h:1≤p.kind∧p.kind≤5
 ·exact P1 p iv pv rv w hsm h hfl hi hp hr
 ·exact Jq p iv pv rv w (by omega)
set_option maxRecDepth 100000 in
theorem ofC (p:cG) (iv pv rv:Value) (w:World) (hsm:jz p) (hfl:∀ x∈p.bI,x.2<18446744073709551616) (hi:eh b9 1 w iv p.items) (hp:eh gJ 2 w pv p.bL) (hr:eh dN 2 w rv p.bI):
  Calls Tryz.prog 17 #[.agg #[.int .i64 p.kind,.string p.text,iv,pv,rv],.int .u64 0] w fun r w'=>OfR p w r w':=by
 obtain⟨W,hW⟩:∃ W,W=w.alloc (.cells #[.int .i64 p.kind,.string p.text,iv,pv,rv] 36):=⟨_,rfl⟩;have hkW:af [] w W:=by rw[hW];exact(af.refl _ w).alloc _
 have Ur:W.heap.size=w.heap.size+1:=by rw[hW];simp
 have hb:W.heap[w.heap.size]?=some (.cells #[.int .i64 p.kind,.string p.text,iv,pv,rv] 36 (0,0)):=by rw[hW];exact aG w _
 have HWR:=ae (Jr p iv pv rv W hsm hfl (hi.aN hkW) (hp.aN hkW) (hr.aN hkW));obtain⟨ia,nY,rfl,_,_,_,hia⟩:=hi.texts;obtain⟨pa,pj,rfl,_,_,_,hpa⟩:=hp.bL;obtain⟨ra,qU,rfl,_,_,_,hra⟩:=hr.lN;have PW:=ae hia;have OZ:=ae hpa;have MS:=ae hra;obtain⟨ni,hni⟩:∃ ni,p.items.length=ni:=⟨_,rfl⟩;obtain⟨np,hnp⟩:∃ np,p.bL.length=np:=⟨_,rfl⟩;obtain⟨nr,hnr⟩:∃ nr,p.bI.length=nr:=⟨_,rfl⟩;obtain⟨kd,hkd⟩:∃ kd,p.kind=kd:=⟨_,rfl⟩;obtain⟨tx,htx⟩:∃ tx,p.text=tx:=⟨_,rfl⟩;rw[hni,hnp,hnr,hkd,htx] at hb HWR hW;rw[hni,hnp,hnr,hkd,htx];rw[hni] at PW;rw[hnp] at OZ;rw[hnr] at MS;have IG:ni≤1048576:=by rw[←hni];exact hsm.lO
 have IF:np≤1048576:=by rw[←hnp];exact hsm.mO
 have IE:nr≤1048576:=by rw[←hnr];exact hsm.mN
 have wS:=ae hni;have Ec:=ae hnp;have zS:=ae hnr;have qg:=ae hkd;have GX:=ae htx;have pV:=ae hsm;have qO:=ae hfl;have kK:=ae hkW;have Zd:=ae Ur;have HB:=ae hb;have G5:=ae (show ∀ X,af [] W X→X.heap[w.heap.size]?=some (.cells #[.int .i64 kd,.string tx,.slice ia ni nY,.slice pa np pj,.slice ra nr qU] 36 (0,0)) from fun X hk=>hk.get hb (by simp));clear hi hp hr hia hpa hra hni hnp hnr hkd htx hsm hfl hkW Ur;go_enter Tryz.func17,Tryz.ntmps17
 go_upto_region 1 with(fail)
 rw[←hW];clear hW;go_wp2_with (refine kV rfl 36 _ rfl w.heap.size rfl _ _ (0,0) _ HB.out Tryz.underlying36 rfl NZ ?_)
 refine HWR.out.mono ?_;rintro r w2 ⟨⟨e,rfl,he⟩,hk2⟩;have HE:=ae he;have kM:=ae hk2;have hbx:=G5.out w2 hk2;have c0:w2.cell? ⟨w.heap.size,0,none⟩=some (.int .i64 kd):=by rw[ah hbx];rfl
 have c1:w2.cell? ⟨w.heap.size,1,none⟩=some (.string tx):=by rw[ah hbx];rfl
 clear hb he hk2 hbx
 by_cases h0:e=0
 ·have hok:=HE.out.1 h0;have pW:=ae hok;subst h0;have IH:=hok.kind.hk;rw[qg.out] at IH;clear hok
  rcases(by omega:kd=1∨kd=2∨kd=3∨kd=4∨kd=5) with rfl|rfl|rfl|rfl|rfl
  ·have se:=ae (NP tx w2);unfold dp at se;go_wp2_with fail
   refine se.out.mono ?_;rintro r w3 ⟨rfl,hw3⟩;have HW3:=ae hw3;clear hw3;go_wp2_with fail
   go_ret2
   exact .inr ⟨pW.out,w2.heap.size,rfl,.inl ⟨qg.out,by rw[GX.out,←HW3.out];exact aG _ _⟩,(kK.out.trans kM.out).trans (by rw[←HW3.out];exact(af.refl _ _).alloc _)⟩
  ·have kH:=ae (LN w2);have se:=ae (fun b X=>NQ b X);have D0:=ae (fun sv cs cost s X h hs hn=>Ot w2.heap.size w2.heap.size sv cs cost s X h hs hn);have e2:w2.cell? ⟨w.heap.size,2,none⟩=some (.slice ia ni nY):=by rw[ah (G5.out w2 kM.out)];rfl
   have MX:=ae (show ∀ X:World,Below w2.heap.size w2 X→X.cell? ⟨w.heap.size,2,none⟩=some (.slice ia ni nY) from fun X hb=>ak (af.fm hb) e2);unfold dp at kH se D0;go_wp2_with fail
   refine kH.out.mono ?_;rintro r w3 ⟨rfl,hw3⟩;have hb3:Below w2.heap.size w2 w3:=by rw[←hw3];exact((af.refl [] w2).alloc _).below
   have hd3:o9 w2.heap.size w3 w2.heap.size (.slice none 0 0) [] 0:=by rw[←hw3];exact Sw w2 _ (aq _)
   have f2:=MX.out w3 hb3;have H0:Hid (o9 w2.heap.size w3 w2.heap.size (.slice none 0 0) [] 0∧cO []=p.items.take 0∧Below w2.heap.size w2 w3):=ae ⟨hd3,rfl,hb3⟩;clear hw3 hb3 hd3 c0 c1 e2;go_wp2_with fail
   clear f2
   go_loopw [37,9] (fun i _ X=>∃ (k:Nat) (sv:Value) (cs:List CK) (cost:Nat),i=.int .i64 (k:Int)∧k≤ni∧Hid (o9 w2.heap.size X w2.heap.size sv cs cost∧cO cs=p.items.take k∧Below w2.heap.size w2 X)) (fun i _ _=>ni-(intOf i).toNat)
   case atStart=>exact⟨0,_,_,_,rfl,bz _,H0⟩
   case round=>
    obtain⟨k,sv,cs,cost,rfl,hk,HV⟩:=hrel
    by_cases hlt:k<ni
    ·obtain⟨x,hx⟩:∃ x,p.items[k]?=some x:=⟨_,ag (by rw[wS.out];exact hlt)⟩;obtain⟨g,off,rfl,hcc⟩:=PW.out (by omega);have hcx:=ak ((kK.out.trans kM.out).trans (af.fm HV.out.2.2)) (hcc k x hx);have hkn:(k:Int)<(ni:Int):=by omega
     have hxs:x.size≤1048576:=pV.out.item (aB hx);have HP:=ae (D0.out sv cs cost x wr HV.out.1 hxs (by rw[HV.out.2.1,aR];omega));have HX:=ae hx;clear hx hcc;go_wp2_with fail
     refine HP.out.mono ?_;rintro r w5 ⟨rfl,Co,cs',j7,h1,h2,h3⟩;have sb:Hid (o9 w2.heap.size w5 w2.heap.size Co cs' j7∧cO cs'=p.items.take (k+1)∧Below w2.heap.size w2 w5):=ae ⟨h1,by rw[h2,HV.out.2.1,jZ HX.out],HV.out.2.2.trans h3⟩;clear h1 h2 h3 hcx;go_wp2_with fail
     go_roundw
     case rel=>exact⟨k+1,Co,cs',j7,rfl,by omega,sb⟩
     case measure=>simp[intOf];omega
    ·obtain rfl:k=ni:=by omega
     go_wp2_with fail
     refine(se.out _ _).mono ?_;rintro r w6 ⟨rfl,tU⟩;have xE:=ae tU;clear tU;go_wp2_with fail
     go_ret2
     have mj:af [] wr w6:=by rw[←xE.out];exact(af.refl _ _).alloc _
     refine .inr ⟨pW.out,wr.heap.size,rfl,.inr (.inl ⟨qg.out,_,_,_,_,_,by rw[←xE.out];exact aG _ _,HV.out.1.aN mj,?_⟩),((kK.out.trans kM.out).trans (af.fm HV.out.2.2)).trans mj⟩;rw[HV.out.2.1];exact aE (by rw[wS.out];exact aq _)
  ·have kH:=ae (sd.Ns 0 w2 (by decide));have se:=ae (fun b X=>Io b X);have l9:=ae (fun D cost ps k v X h hB hk hks hvs hn=>sd.Nr w2.heap.size (w2.heap.size+1) w2.heap.size D cost ps k v X h hB hk hks hvs hn);have e3:w2.cell? ⟨w.heap.size,3,none⟩=some (.slice pa np pj):=by rw[ah (G5.out w2 kM.out)];rfl
   have MX:=ae (show ∀ X:World,Below w2.heap.size w2 X→X.cell? ⟨w.heap.size,3,none⟩=some (.slice pa np pj) from fun X hb=>ak (af.fm hb) e3)
   have O4:=ae (show(p.bL.map (fun x=>x.1)).Nodup from by
    have:=pW.out.once;unfold kL at this;rw[bQ] at this;have h2:=this.1;rw[bQ] at h2
    exact h2.2.1)
   rw[show((0:Nat):Int)=(0:Int) from rfl] at kH;unfold dp at kH se l9;go_wp2_with fail
   refine kH.out.mono ?_;rintro r w3 ⟨rfl,hd3,hk3⟩;have hb3:Below w2.heap.size w2 w3:=hk3.below;have f3:=MX.out w3 hb3;have H0:Hid (sd.kb w2.heap.size w3 (w2.heap.size+1) w2.heap.size (DM.new 0) 0 (p.bL.take 0)∧Below w2.heap.size w2 w3):=ae ⟨hd3,hb3⟩;clear hd3 hk3 hb3 c0 c1 e3;go_wp2_with fail
   clear f3
   go_loopw [54,12] (fun i _ X=>∃ (k:Nat) (D:DM ByteArray) (cost:Nat),i=.int .i64 (k:Int)∧k≤np∧Hid (sd.kb w2.heap.size X (w2.heap.size+1) w2.heap.size D cost (p.bL.take k)∧Below w2.heap.size w2 X)) (fun i _ _=>np-(intOf i).toNat)
   case atStart=>exact⟨0,_,_,rfl,bz _,H0⟩
   case round=>
    obtain⟨k,D,cost,rfl,hk,HV⟩:=hrel
    by_cases hlt:k<np
    ·obtain⟨x,hx⟩:∃ x,p.bL[k]?=some x:=⟨_,ag (by rw[Ec.out];exact hlt)⟩;obtain⟨g,off,rfl,hcc⟩:=OZ.out (by omega);obtain⟨d0,d1⟩:=hcc k x hx;have pq:=(kK.out.trans kM.out).trans (af.fm HV.out.2);have hcx:=ak pq d0;have hcy:=ak pq d1;have hkn:(k:Int)<(np:Int):=by omega
     have hxs:=pV.out.field (aB hx);have hys:=pV.out.val (aB hx);obtain⟨w4,hw4⟩:∃ w4,wr.alloc (.cells #[.string x.1,.string x.2] 51)=w4:=⟨_,rfl⟩;have hb4:w4.heap[wr.heap.size]?=some (.cells #[.string x.1,.string x.2] 51 (0,0)):=by rw[←hw4];exact aG wr _
     have hk4:af [] wr w4:=by rw[←hw4];exact(af.refl _ wr).alloc _
     have g0:w4.cell? ⟨wr.heap.size,0,none⟩=some (.string x.1):=by rw[ah hb4];rfl
     have g1:w4.cell? ⟨wr.heap.size,1,none⟩=some (.string x.2):=by rw[ah hb4];rfl
     have II:Below w2.heap.size w2 w4:=HV.out.2.trans (hk4.ep HV.out.2.size (by simp));have HS:=ae (l9.out D cost (p.bL.take k) x.1 x.2 w4 (HV.out.1.aN hk4) II.size (yF O4.out hx) hxs hys (by rw[aR];omega));have HT:=ae (show p.bL.take (k+1)=p.bL.take k++[(x.1,x.2)] from jZ hx);have G6:=ae II;obtain⟨xk,xv⟩:=x;simp only at hcx hcy hw4 g0 g1 HS HT;clear hx hcc d0 d1 pq hb4 hk4 II hxs hys;go_wp2_with fail
     refine HS.out.mono ?_;rintro r w5 ⟨⟨u,rfl⟩,D',j7,h1,h2⟩;have sb:Hid (sd.kb w2.heap.size w5 (w2.heap.size+1) w2.heap.size D' j7 (p.bL.take (k+1))∧Below w2.heap.size w2 w5):=ae ⟨by rw[HT.out];exact h1,G6.out.trans h2⟩;clear h1 h2 hcx hcy g0 g1;go_wp2_with fail
     go_roundw
     case rel=>exact⟨k+1,D',j7,rfl,by omega,sb⟩
     case measure=>simp[intOf];omega
    ·obtain rfl:k=np:=by omega
     go_wp2_with fail
     refine(se.out _ _).mono ?_;rintro r w6 ⟨rfl,tU⟩;have xE:=ae tU;clear tU;go_wp2_with fail
     go_ret2
     have mj:af [] wr w6:=by rw[←xE.out];exact(af.refl _ _).alloc _
     have Px:=HV.out.1.aN mj;rw[aE (by rw[Ec.out];exact aq _)] at Px;exact .inr ⟨pW.out,wr.heap.size,rfl,.inr (.inr (.inl ⟨qg.out,_,_,_,_,_,by rw[←xE.out];exact aG _ _,Px⟩)),((kK.out.trans kM.out).trans (af.fm HV.out.2)).trans mj⟩
  ·have kH:=ae (ed.Sk 0 w2 (by decide));have se:=ae (fun b X=>Kz b X);have l9:=ae (fun D cost ps k X h hB hk hks hn=>ed.Sn w2.heap.size (w2.heap.size+1) w2.heap.size D cost ps k X h hB hk hks hn);have e2:w2.cell? ⟨w.heap.size,2,none⟩=some (.slice ia ni nY):=by rw[ah (G5.out w2 kM.out)];rfl
   have MX:=ae (show ∀ X:World,Below w2.heap.size w2 X→X.cell? ⟨w.heap.size,2,none⟩=some (.slice ia ni nY) from fun X hb=>ak (af.fm hb) e2)
   have O4:=ae (show(p.items.map id).Nodup from by
    have:=pW.out.once;unfold kL at this;rw[qg.out,aQ rfl,aD,bQ] at this;rw[nD]
    exact this.1)
   rw[show((0:Nat):Int)=(0:Int) from rfl] at kH;unfold dp at kH se l9;go_wp2_with fail
   refine kH.out.mono ?_;rintro r w3 ⟨rfl,hd3,hk3⟩;have hb3:Below w2.heap.size w2 w3:=hk3.below;have f2:=MX.out w3 hb3;have H0:Hid (ed.nO w2.heap.size w3 (w2.heap.size+1) w2.heap.size (DM.new 0) 0 (p.items.take 0)∧Below w2.heap.size w2 w3):=ae ⟨hd3,hb3⟩;clear hd3 hk3 hb3 c0 c1 e2;go_wp2_with fail
   clear f2
   go_loopw [74,15] (fun i _ X=>∃ (k:Nat) (D:DM Unit) (cost:Nat),i=.int .i64 (k:Int)∧k≤ni∧Hid (ed.nO w2.heap.size X (w2.heap.size+1) w2.heap.size D cost (p.items.take k)∧Below w2.heap.size w2 X)) (fun i _ _=>ni-(intOf i).toNat)
   case atStart=>exact⟨0,_,_,rfl,bz _,H0⟩
   case round=>
    obtain⟨k,D,cost,rfl,hk,HV⟩:=hrel
    by_cases hlt:k<ni
    ·obtain⟨x,hx⟩:∃ x,p.items[k]?=some x:=⟨_,ag (by rw[wS.out];exact hlt)⟩;obtain⟨g,off,rfl,hcc⟩:=PW.out (by omega);have hcx:=ak ((kK.out.trans kM.out).trans (af.fm HV.out.2)) (hcc k x hx);have hkn:(k:Int)<(ni:Int):=by omega
     have hxs:=pV.out.item (aB hx);have HS:=ae (l9.out D cost (p.items.take k) x wr HV.out.1 HV.out.2.size (yF (f:=id) O4.out hx) hxs (by rw[aR];omega));have HT:=ae (show p.items.take (k+1)=p.items.take k++[x] from jZ hx);clear hx hcc hxs;go_wp2_with fail
     refine HS.out.mono ?_;rintro r w5 ⟨⟨u,rfl⟩,D',j7,h1,h2⟩;have sb:Hid (ed.nO w2.heap.size w5 (w2.heap.size+1) w2.heap.size D' j7 (p.items.take (k+1))∧Below w2.heap.size w2 w5):=ae ⟨by rw[HT.out];exact h1,HV.out.2.trans h2⟩;clear h1 h2 hcx;go_wp2_with fail
     go_roundw
     case rel=>exact⟨k+1,D',j7,rfl,by omega,sb⟩
     case measure=>simp[intOf];omega
    ·obtain rfl:k=ni:=by omega
     go_wp2_with fail
     refine(se.out _ _).mono ?_;rintro r w6 ⟨rfl,tU⟩;have xE:=ae tU;clear tU;go_wp2_with fail
     go_ret2
     have mj:af [] wr w6:=by rw[←xE.out];exact(af.refl _ _).alloc _
     have Px:=HV.out.1.aN mj;rw[aE (by rw[wS.out];exact aq _)] at Px;exact .inr ⟨pW.out,wr.heap.size,rfl,.inr (.inr (.inr (.inl ⟨qg.out,_,_,_,_,_,by rw[←xE.out];exact aG _ _,Px⟩))),((kK.out.trans kM.out).trans (af.fm HV.out.2)).trans mj⟩
  ·have kH:=ae (kd.Qp 0 w2 (by decide));have se:=ae (fun b X=>Ky b X);have e4:w2.cell? ⟨w.heap.size,4,none⟩=some (.slice ra nr qU):=by rw[ah (G5.out w2 kM.out)];rfl
   have MX:=ae (show ∀ X:World,Below w2.heap.size w2 X→X.cell? ⟨w.heap.size,4,none⟩=some (.slice ra nr qU) from fun X hb=>ak (af.fm hb) e4)
   have O4:=ae (show(p.bI.map (fun x=>x.1)).Nodup from by
    have:=pW.out.once;unfold kL at this;rw[bQ] at this
    exact this.2.1)
   rw[show((0:Nat):Int)=(0:Int) from rfl] at kH;unfold dp at kH se;go_wp2_with fail
   refine kH.out.mono ?_;rintro r w3 ⟨rfl,hd3,hk3⟩;have hb3:Below w2.heap.size w2 w3:=hk3.below;have f4:=MX.out w3 hb3;have H0:Hid (kd.jO w2.heap.size w3 (w2.heap.size+1) w2.heap.size (DM.new 0) 0 (.slice none 0 0) [] (p.bI.take 0)∧Below w2.heap.size w2 w3):=ae ⟨hd3,hb3⟩;clear hd3 hk3 hb3 c0 c1 e4;go_wp2_with fail
   clear f4
   go_loopw [89,18] (fun i _ X=>∃ (k:Nat) (D:DM Nat) (cost:Nat) (sv:Value) (row:List (ByteArray×Nat)),i=.int .i64 (k:Int)∧k≤nr∧Hid (kd.jO w2.heap.size X (w2.heap.size+1) w2.heap.size D cost sv row (p.bI.take k)∧Below w2.heap.size w2 X)) (fun i _ _=>nr-(intOf i).toNat)
   case atStart=>exact⟨0,_,_,_,_,rfl,bz _,H0⟩
   case round=>
    obtain⟨k,D,cost,sv,row,rfl,hk,HV⟩:=hrel
    by_cases hlt:k<nr
    ·obtain⟨x,hx⟩:∃ x,p.bI[k]?=some x:=⟨_,ag (by rw[zS.out];exact hlt)⟩;obtain⟨g,off,rfl,hcc⟩:=MS.out (by omega);obtain⟨d0,d1⟩:=hcc k x hx;have pq:=(kK.out.trans kM.out).trans (af.fm HV.out.2);have hcx:=ak pq d0;have hcy:=ak pq d1;have hkn:(k:Int)<(nr:Int):=by omega
     have hxm:=aB hx;have hxs:=pV.out.mem hxm;have hfx:rk.Fl x.2:=⟨qO.out x hxm,pW.out.num x hxm⟩;obtain⟨w4,hw4⟩:∃ w4,wr.alloc (.cells #[.string x.1,.float .f64 x.2] 54)=w4:=⟨_,rfl⟩;have hb4:w4.heap[wr.heap.size]?=some (.cells #[.string x.1,.float .f64 x.2] 54 (0,0)):=by rw[←hw4];exact aG wr _
     have hk4:af [] wr w4:=by rw[←hw4];exact(af.refl _ wr).alloc _
     have g0:w4.cell? ⟨wr.heap.size,0,none⟩=some (.string x.1):=by rw[ah hb4];rfl
     have g1:w4.cell? ⟨wr.heap.size,1,none⟩=some (.float .f64 x.2):=by rw[ah hb4];rfl
     have II:Below w2.heap.size w2 w4:=HV.out.2.trans (hk4.ep HV.out.2.size (by simp));have HS:=ae (kd.Qo (HV.out.1.aN hk4) x.1 x.2 (yF O4.out hx) hxs hfx (by rw[aR];omega));have HT:=ae (show p.bI.take (k+1)=p.bI.take k++[(x.1,x.2)] from jZ hx);have G6:=ae II;obtain⟨xk,xv⟩:=x;unfold dp at HS;simp only at hcx hcy hw4 g0 g1 HS HT;clear hx hcc d0 d1 pq hb4 hk4 II hxs hfx hxm;go_wp2_with fail
     refine HS.out.mono ?_;rintro r w5 ⟨⟨u,rfl⟩,D',j7,Co,row',h1,h2⟩;have sb:Hid (kd.jO w2.heap.size w5 (w2.heap.size+1) w2.heap.size D' j7 Co row' (p.bI.take (k+1))∧Below w2.heap.size w2 w5):=ae ⟨by rw[HT.out];exact h1,G6.out.trans h2⟩;clear h1 h2 hcx hcy g0 g1;go_wp2_with fail
     go_roundw
     case rel=>exact⟨k+1,D',j7,Co,row',rfl,by omega,sb⟩
     case measure=>simp[intOf];omega
    ·obtain rfl:k=nr:=by omega
     go_wp2_with fail
     refine(se.out _ _).mono ?_;rintro r w6 ⟨rfl,tU⟩;have xE:=ae tU;clear tU;go_wp2_with fail
     go_ret2
     have mj:af [] wr w6:=by rw[←xE.out];exact(af.refl _ _).alloc _
     have Px:=HV.out.1.aN mj;rw[aE (by rw[zS.out];exact aq _)] at Px;exact .inr ⟨pW.out,wr.heap.size,rfl,.inr (.inr (.inr (.inr ⟨qg.out,_,_,_,_,_,_,_,by rw[←xE.out];exact aG _ _,Px⟩))),((kK.out.trans kM.out).trans (af.fm HV.out.2)).trans mj⟩
 ·have h0b:(e != 0)=true:=by simp[h0]
  have rY:=ae (fun h:OkP p=>h0 (HE.out.2 h));go_wp2_with fail
  go_ret2
  exact .inl ⟨e,h0,rY.out,rfl,kK.out.trans kM.out⟩
end jw
end Go.Proofs.YthpdlidbaojlbaaGreatDoor
