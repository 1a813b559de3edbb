/- value: makers. -/
import Derived.Test.YthpdlidbaojlbaaGreatDoorQ19
set_option linter.unusedVariables false
set_option linter.unusedSimpArgs false
set_option maxHeartbeats 4000000
open Go.ChangeShapes Go.WideShapes Go.RowKit
namespace Go.Proofs.YthpdlidbaojlbaaGreatDoor
namespace jw.ed
open ks (af ae hlt ah bC alloc_old aG aX aT dp DM DE bu TabIs ptr fJ lq)
theorem nO.uZ {B:Nat} {w w1:World} {rb db:Nat} {D:DM Unit} {cost:Nat} {ps:List ByteArray} (h:nO B w rb db D cost ps) (hd:bu dty w1 db D.step) (hk:af (D.blocks db) w w1):nO B w1 rb db D.step cost ps:=by
 obtain⟨hw1,hsp,hsd,hsn⟩:=ks.DM.fE h.wf;obtain⟨xb,hxb⟩:=ks.DM.lz h.wf db;have hsub:∀ b∈D.step.blocks db,b∈D.blocks db:=fun b hb=>hxb.mem_iff.1 (bh _ hb)
 refine⟨?_,hd,hw1,fun b hb=>h.lo b (hsub b hb),h.b,fun hb=>h.ne (hsub _ hb),(hsp.map _).trans h.all,h.cost⟩;rw[hsd];exact hk.get h.hd h.ne
theorem nO.find {B:Nat} {w:World} {rb db:Nat} {D:DM Unit} {cost:Nat} {ps:List ByteArray} (h:nO B w rb db D cost ps) {k:ByteArray} (hk:∀ p∈ps,p≠k):D.step.find k=none:=by
 rw[ks.DM.find_eq (ks.DM.fE h.wf).1,ks.lS (ks.DM.fE h.wf).2.1 (ks.DM.fE h.wf).1.keys]
 cases hf:ks.eF D.all k with
 | none=>rfl
 | some e=>obtain⟨he,rfl⟩:=ks.fL hf;exact absurd rfl (h.new hk e he)
theorem Sl (B rb db:Nat) (D:DM Unit) (cost:Nat) (ps:List ByteArray) (k:ByteArray) (w:World) (h:nO B w rb db D cost ps) (hB:B≤w.heap.size) (hk:∀ p∈ps,p≠k) (hks:k.size≤1048576):
  Calls Tryz.prog 102 #[dp rb,.string k] w fun r w'=>r=.returned (.bool false)∧nO B w' rb db D.step cost ps∧Below B w w':=by
 have H:=ae h;have HB:=ae hB;have c1:w.cell? ⟨rb,1,none⟩=some (dp db):=by rw[ah h.hd];rfl
 have vX:=ae (ks.ed.Lx db D k w h.wf h.d (by unfold maxLen;omega) (h.find hk));rw[h.find hk] at vX;clear h hk hB;unfold dp at c1 vX ⊢;unfold ks.ed.Dx at vX;go_enter Tryz.func102,Tryz.ntmps102
 go_wp2_with fail
 refine vX.out.mono ?_;rintro r w1 ⟨rfl,hd1,hk1⟩;have h1:=ae (H.out.uZ hd1 hk1);have hb1:=ae (hk1.ep HB.out H.out.lo);clear hd1 hk1 c1;go_wp2_with fail
 go_ret;refine⟨rfl,h1.out.aN ((af.refl _ _).alloc _),hb1.out.trans ?_⟩;exact(Below.refl _ w1).alloc (aF HB.out hb1.out.size) _
set_option maxRecDepth 8000 in
theorem Sn (B rb db:Nat) (D:DM Unit) (cost:Nat) (ps:List ByteArray) (k:ByteArray) (w:World) (h:nO B w rb db D cost ps) (hB:B≤w.heap.size) (hk:∀ p∈ps,p≠k) (hks:k.size≤1048576) (hn:ps.length<1048576):
  Calls Tryz.prog 59 #[dp rb,.string k] w fun r w'=>(∃ u,r=.returned u)∧∃ D' j7,nO B w' rb db D' j7 (ps++[k])∧Below B w w':=by
 have HB:=ae hB;have MC:=ae hk;have VN:=ae (Sl B rb db D cost ps k w h hB hk hks);have kM:=ae hks;have xW:=ae hn;have yV:=h.cost;have hlen:=ae h.n;have hct:cost≤2097152*1048576:=by omega
 clear h hk hB;unfold dp at VN ⊢;go_enter Tryz.func59,Tryz.ntmps59
 go_wp2_with fail
 refine VN.out.mono ?_;rintro r w1 ⟨rfl,h1,hb1⟩;have H1:=ae h1;have HB1:=ae hb1;have HLEN:=ae (Fj B rb db D.step cost ps w1 h1);have d1:w1.cell? ⟨rb,1,none⟩=some (dp db):=by rw[ah h1.hd];rfl
 have d2:w1.cell? ⟨rb,2,none⟩=some (.int .i64 (cost:Int)):=by rw[ah h1.hd];rfl
 have f2:w1.frozen? ⟨rb,2,none⟩=false:=bC h1.hd 2;obtain⟨m,hm⟩:∃ m,m=ps.length:=⟨_,rfl⟩;rw[←hm] at HLEN;have X6:(m:Int)<1048576:=by omega
 have hnn:decide (1048576≤(m:Int))=false:=by simp;omega
 have l9:=ae (fun(W:World) (h:bu ks.ed.dty W db D.step)=>ks.ed.JL db D.step k () W H1.out.wf h (by have:=kM.out;unfold maxLen;omega) (by have:=H1.out.n;have:=xW.out;omega) (H1.out.find MC.out));unfold dp at HLEN d1 l9;clear h1 hb1 hn hm yV;go_wp2_with fail
 refine HLEN.out.mono ?_;rintro r w2 ⟨rfl,rfl⟩;go_wp2_with fail
 obtain⟨W2,hW2⟩:∃ W2,W2=w1.setCell ⟨rb,2,none⟩ (.int .i64 ((cost:Int)+(24+(k.size:Int)))):=⟨_,rfl⟩;have hk2:af [rb] w1 W2:=by rw[hW2];exact(af.refl _ w1).setCell (p:=⟨rb,2,none⟩) (.inl (by simp)) _
 have hr2:W2.heap[rb]?=some (.cells #[.int .u64 (D.step.seed:Int),dp db,.int .i64 ((cost+(24+k.size):Nat):Int)] 178 (0,0)):=by rw[hW2,aX H1.out.hd 2 _];rfl
 have hd2:bu ks.ed.dty W2 db D.step:=H1.out.d.keeps hk2 (fun b hb hm=>by simp at hm;exact H1.out.ne (hm ▸ hb));have Te:=ae hk2;have HR2:=ae hr2;rw[←hW2];refine(l9.out W2 hd2).mono ?_;clear hW2 hk2 hr2 hd2 d1 d2 f2;rintro r w3 ⟨b,tb,nb,rfl,hd3,hk3,hb3⟩;have HD3:=ae hd3;have zt:=ae hk3;have HB3:=ae hb3;clear hd3 hk3 hb3;go_wp2_with fail
 go_ret2
 have hB2:Below B w1 W2:=Te.out.ep (aF HB.out HB1.out.size) (fun b hb=>by simp at hb;rw[hb];exact H1.out.b);obtain⟨s1,s2,s3⟩:=sd.AZ H1.out.wf () tb nb (H1.out.new MC.out);refine⟨⟨_,rfl⟩,D.step.set k () tb nb,cost+(24+k.size),⟨?_,HD3.out,s1,?_,H1.out.b,?_,?_,?_⟩,(HB1.out.trans hB2).trans (zt.out.ep (aF HB.out (aF HB1.out.size hB2.size)) H1.out.lo)⟩
 ·rw[s3];exact zt.out.get HR2.out H1.out.ne
 ·intro b hb
  rcases HB3.out b hb with h|h
  ·exact H1.out.lo b h
  ·exact aF HB.out (aF HB1.out.size (aF hB2.size h))
 ·intro hb
  rcases HB3.out rb hb with h|h
  ·exact H1.out.ne h
  ·have:=hlt HR2.out;omega
 ·refine(s2.map _).trans ?_;rw[bP];exact((oY _).2 H1.out.all).trans (fq _ _).symm
 ·have:=H1.out.cost;have:=kM.out;rw[aM,List.length_singleton];omega
end jw.ed
namespace jw
open Go.Shelf
open ks (af ae hlt ah bC alloc_old aG aX aT dp)
open Go.Sort (onCells putCells HoldsK flatK size_flatK get_flatK PermIn SortedIn SWO grow putRow Holds)
theorem Br (x y:List UInt8):decide (x≤y)=decide (¬Lib.compareBytes y x<0):=by have h:=bytesLess_eq y x;rw[oN] at h;rw[eL,cz,cz];rw[decide_eq_decide] at h;exact not_congr h.symm
theorem Ii {x y z:List UInt8} (h1:¬Lib.compareBytes y x<0) (h2:¬Lib.compareBytes z y<0):¬Lib.compareBytes z x<0:=by intro h3;have:=CU.ntrans (⟨⟨z⟩⟩,ByteArray.empty) (⟨⟨y⟩⟩,ByteArray.empty) (⟨⟨x⟩⟩,ByteArray.empty) (by unfold ltOf zE;simpa using h2) (by unfold ltOf zE;simpa using h1);unfold ltOf zE at this;simp at this;omega
theorem En (xs:List ByteArray):∃ ys:List ByteArray,(xs.map (fun b=>b.data.toList)).mergeSort (fun x y=>decide (x≤y))=ys.map (fun b=>b.data.toList)∧ys.Perm xs∧ys.Pairwise (fun a b=>¬tlt b a):=by
 obtain⟨ss,hss⟩:∃ ss,ss=(xs.map (fun b=>b.data.toList)).mergeSort (fun x y=>decide (x≤y)):=⟨_,rfl⟩;rw[←hss];have hp:ss.Perm (xs.map (fun b=>b.data.toList)):=by rw[hss];exact List.mergeSort_perm _ _
 have hs:ss.Pairwise (fun a b=>decide (a≤b)=true):=by
  rw[hss];refine List.pairwise_mergeSort (fun a b c h1 h2=>?_) (fun a b=>?_) _
  ·rw[Br,cz] at *;exact Ii h1 h2
  ·rw[Br,Br,jL,cz,cz];have:=rk.mQ a b;omega
 have e:(ss.map (fun s=>(⟨⟨s⟩⟩:ByteArray))).map (fun b=>b.data.toList)=ss:=by rw[kG];exact nD _
 refine⟨ss.map (fun s=>⟨⟨s⟩⟩),e.symm,?_,?_⟩
 ·have:=hp.map (fun s=>(⟨⟨s⟩⟩:ByteArray));rw[kG] at this;have e2:(fun s=>(⟨⟨s⟩⟩:ByteArray)) ∘ (fun b:ByteArray=>b.data.toList)=id:=rfl;rw[e2,nD] at this;exact this
 ·rw[List.pairwise_map];refine hs.imp (fun {a b} h=>?_);rw[Br,cz] at h;exact h
theorem LC (ys:List ByteArray) (j:Nat) (hj:j<ys.length):(flatK b9 1 ys.toArray)[j]! = .string ys[j]:=by
 rw[get_flatK _ _ _ _ (by rw[cJ];omega),Nat.div_one,nA];have e1:ys.toArray[j]! = ys[j]:=by rw[gS _ _ (by simpa using hj)];simp
 rw[e1];rfl
theorem Dq {B g cap n:Nat} {w:World} {xs:List ByteArray} (h:bF b9 1 9 B w (.slice (some ⟨g,0,none⟩) n cap) xs):Holds encStr w g 0 (xs.map (fun b=>b.data.toList)).toArray:=by intro j hj;rw[cJ,aU] at hj;rw[bD];refine⟨?_,h.frozen j⟩;have:=bF.cell (enc:=b9) (fun _=>rfl) h (ag hj) (j:=0) (u:=.string xs[j]) rfl;rw[bB,Nat.add_zero] at this;rw[this,gS _ j (by simpa using hj)];simp
theorem AY (w:World) (g m:Nat) (ys:List ByteArray) (os:Array Obj):grow (putRow encStr (Go.Sort.ahead w m) g 0 (ys.map (fun b=>b.data.toList)).toArray) os=sortWorldK b9 1 w g 0 m ys.toArray os:=by
 unfold sortWorldK Go.Sort.putRowK putRow
 congr 1
 refine Go.Sort.mapBlock_congr _ _ _ _ (fun c e fr hc=>?_);unfold putCells
 apply wU
 ·simp
 ·intro j h1 h2;rw[tp,tp];simp only[bz,yj,bD,cJ,aU,size_flatK,bB,Nat.sub_zero,id]
  by_cases hj:j<ys.length
  ·rw[aQ hj,aQ hj,LC ys j hj,gS _ j (by simpa using hj)];simp
  ·rw[aJ hj,aJ hj]
theorem Eo (B g cap:Nat) (xs:List ByteArray) (w:World) (h:bF b9 1 9 B w (.slice (some ⟨g,0,none⟩) xs.length cap) xs) (hn:xs.length<4611686018427387904) (hg:g<w.heap.size):
  Calls Tryz.prog 372 #[.slice (some ⟨g,0,none⟩) xs.length cap] w fun r w'=>r=.returned (.tuple #[])∧
   ∃ ys,ys.Perm xs∧ys.Pairwise (fun a b=>¬tlt b a)∧bF b9 1 9 B w' (.slice (some ⟨g,0,none⟩) xs.length cap) ys∧af [g] w w':=by
 have:=Tryz.slices_Sort_string g 0 cap (xs.map (fun b=>b.data.toList)) w (Dq h) hg (by simpa using hn);rw[aU] at this;refine Calls.mono this ?_;rintro r w' ⟨rfl,m,os,rfl⟩;obtain⟨ys,e,hp,hs⟩:=En xs;rw[e,AY];obtain⟨o1,o2⟩:=yB (enc:=b9) (k:=1) (fun _=>rfl) (by decide) h (ys:=ys) hp.length_eq m os;exact⟨rfl,ys,hp,hs,o1,o2⟩
open ks (af ae hlt ah bC alloc_old aG aX aT dp KP pZ eS fI rA DM DE bu)
attribute [local go_sem] Oper.semAt_some
structure MeR (B bo:Nat) (xs:List ByteArray) (G H:eS) (X:World) (v:Value):Prop where
 o:X.heap[bo]?=some (qn v)
 row:bF b9 1 9 B X v xs
 g:∀ b,b=bo∨v.ownBlock=some b→G b
 h:∀ b,b=bo∨v.ownBlock=some b→H b
theorem MeR.lW {B bo:Nat} {xs:List ByteArray} {G H:eS} {X Y:World} {v:Value} (h:MeR B bo xs G H X v) (hk:KP G X Y):MeR B bo xs G H Y v:=⟨(hk.block _ (hlt h.o) (h.g _ (.inl rfl))).trans h.o,h.row.bY (fun b hb=>hk.block b (h.row.lt b hb).2 (h.g b (.inr hb))),h.g,h.h⟩
theorem MeR.step {B bo:Nat} {xs:List ByteArray} {G H:eS} {X w5:World} {v:Value} {s:ByteArray} {g n cap:Nat} (h:MeR B bo xs G H X v) (hp:eW b9 1 9 B X w5 v xs s g n cap):
  (∃ u,w5.cell? ⟨bo,0,none⟩=some u)∧w5.frozen? ⟨bo,0,none⟩=false∧
  ∃ G' H',MeR B bo (xs++[s]) G' H' (w5.setCell ⟨bo,0,none⟩ (.slice (some ⟨g,0,none⟩) (n+1) cap)) (.slice (some ⟨g,0,none⟩) (n+1) cap)∧(∀ b,G' b→G b∨X.heap.size≤b)∧(∀ b,H' b→H b∨X.heap.size≤b)∧KP (fun b=>¬H b) X (w5.setCell ⟨bo,0,none⟩ (.slice (some ⟨g,0,none⟩) (n+1) cap)):=by
 have Gu:v.ownBlock≠some bo:=h.row.bw h.o (by decide);have o1:w5.heap[bo]?=some (qn v):=hp.bY.get h.o (by simp;exact Gu)
 have hg:g≠bo:=by
  rcases hp.at_ with e|e
  ·exact fun e2=>Gu (by rw[←e2];exact e)
  ·have:=hlt h.o;omega
 have hkp:KP (fun b=>¬H b) X (w5.setCell ⟨bo,0,none⟩ (.slice (some ⟨g,0,none⟩) (n+1) cap)):=by refine KP.setCell (p:=⟨bo,0,none⟩) ?_ (fun hc=>by have:=hc.2;exact this (h.h bo (.inl rfl))) _;exact KP.il (G:=fun b=>¬H b) hp.bY (fun b _ hb hm=>hb (h.h b (.inr (by simpa using hm))))
 refine⟨⟨_,by rw[ah o1];rfl⟩,bC o1 0,fun b=>G b∨b=g,fun b=>H b∨b=g,⟨?_,?_,?_,?_⟩,?_,?_,hkp⟩
 ·rw[aX o1 0 _];rfl
 ·exact hp.own.bY (fun b hb=>aT _ (fun e=>hg (by simp[Value.ownBlock] at hb;rw[hb];exact e)))
 ·rintro b (rfl|hb)
  ·exact .inl (h.g _ (.inl rfl))
  ·simp[Value.ownBlock] at hb;exact .inr hb.symm
 ·rintro b (rfl|hb)
  ·exact .inl (h.h _ (.inl rfl))
  ·simp[Value.ownBlock] at hb;exact .inr hb.symm
 ·rintro b (hb|rfl)
  ·exact .inl hb
  ·rcases hp.at_ with e|e
   ·exact .inl (h.g _ (.inr e))
   ·exact .inr e
 ·rintro b (hb|rfl)
  ·exact .inl hb
  ·rcases hp.at_ with e|e
   ·exact .inl (h.h _ (.inr e))
   ·exact .inr e
theorem CG {ys ps:List ByteArray} (hp:ys.Perm ps) (hn:ps.Nodup) (hs:ys.Pairwise (fun a b=>¬tlt b a)):ys.Pairwise tlt:=by
 have hn2:ys.Nodup:=hp.nodup_iff.2 hn;refine(hs.and hn2).imp (fun {a b} h=>?_);unfold tlt at *;have h1:=rk.mQ a.data.toList b.data.toList
 rcases dy (Lib.compareBytes a.data.toList b.data.toList) 0 with h2|h2|h2
 ·exact h2
 ·exact absurd (bytes_inj ((rk.cmp_eq _ _).1 h2)) h.2
 ·exact absurd (by omega) h.1
set_option maxRecDepth 8000 in
theorem KF (B rb db:Nat) (D:DM Unit) (cost:Nat) (ps:List ByteArray) (w:World) (h:ed.nO B w rb db D cost ps) (hn:ps.length≤1048576) (hnd:ps.Nodup):
  Calls Tryz.prog 371 #[dp rb] w fun r w'=>∃ v ys,r=.returned v∧bF b9 1 9 w.heap.size w' v ys∧ys.Pairwise tlt∧(∀ x,x∈ys↔x∈ps)∧af [] w w':=by
 obtain⟨i9,hi9,iV,iA,im⟩:=cF qc;have H:=ae h;have c1:w.cell? ⟨rb,1,none⟩=some (dp db):=by rw[ah h.hd];rfl
 have HLEN:=ae (ed.Fj B rb db D cost ps w h);have O8:=ae (fun X=>ed.wO db X);clear h;refine(fw (n:=20)).1 ?_;unfold dp at c1 HLEN O8 ⊢;obtain⟨m,hm⟩:∃ m,m=ps.length:=⟨_,rfl⟩;rw[←hm] at HLEN hn;have HM:=ae hm;clear hm;refine iW Tryz.func371 rfl trivial ?_ rfl;simp only[Tryz.ntmps371,cJ,List.length_cons,List.length_nil,Nat.reduceAdd,Nat.reduceSub,fv,Array.replicate_zero,gd,fF,List.nil_append,List.cons_append]
 gi_wp2_with (first|(refine⟨trivial,?_⟩;gi_at_call 103;refine(fw.2 HLEN.out).mono ?_;rintro e w' ⟨rfl,rfl⟩)|(gi_at_make;refine wpListIn_make_own _ rfl _ _ 32 rfl w.heap.size 9 i9 _ 1 Tryz.underlying32 hi9 iV iA _ _ _ m rfl rfl ?_ ?_ ?_ ?_ ?_;go_num;(rw[im];omega);(unfold maxLen;omega);exact aq _;intro w1 ho1 hg1;have Cq:=ae ho1;have MV:=ae hg1;have hcw:(w1.alloc (.cells #[.slice (some ⟨w.heap.size,0,none⟩) 0 m] 32)).cell? ⟨rb,1,none⟩=some (.pointer (some ⟨db,0,none⟩)):=ak (af.alloc (j5 hg1) _) c1;clear ho1 hg1)|(refine⟨trivial,?_⟩;gi_at_call 365;refine(fw.2 (O8.out _)).mono ?_;rintro e w' ⟨rfl,rfl⟩))
 have hkg:af [] w w1:=j5 MV.out;have hz:((w1.alloc (.cells #[.slice (some ⟨w.heap.size,0,none⟩) 0 m] 32)).alloc (.cells #[.pointer (some ⟨db,0,none⟩)] 174)).heap.size=w1.heap.size+2:=by simp
 have hk0:af [] w1 ((w1.alloc (.cells #[.slice (some ⟨w.heap.size,0,none⟩) 0 m] 32)).alloc (.cells #[.pointer (some ⟨db,0,none⟩)] 174)):=((af.refl _ w1).alloc _).alloc _;have hb0:((w1.alloc (.cells #[.slice (some ⟨w.heap.size,0,none⟩) 0 m] 32)).alloc (.cells #[.pointer (some ⟨db,0,none⟩)] 174)).heap[w1.heap.size]?=some (qn (.slice (some ⟨w.heap.size,0,none⟩) 0 m)):=alloc_old _ (aG _ _)
 have hb1:((w1.alloc (.cells #[.slice (some ⟨w.heap.size,0,none⟩) 0 m] 32)).alloc (.cells #[.pointer (some ⟨db,0,none⟩)] 174)).heap[w1.heap.size+1]?=some (.cells #[.pointer (some ⟨db,0,none⟩)] 174 (0,0)):=by have:=aG (w1.alloc (.cells #[.slice (some ⟨w.heap.size,0,none⟩) 0 m] 32)) (.cells #[.pointer (some ⟨db,0,none⟩)] 174);rw[de] at this;exact this
 generalize ((w1.alloc (.cells #[.slice (some ⟨w.heap.size,0,none⟩) 0 m] 32)).alloc (.cells #[.pointer (some ⟨db,0,none⟩)] 174))=W2 at *
 have ME:=ae hk0;have ZF:=ae hkg;have ue:bF b9 1 9 w.heap.size w1 (.slice (some ⟨w.heap.size,0,none⟩) 0 m) []:=Cq.out;have hwl:=(ue.lt w.heap.size rfl).2;have c2:W2.cell? ⟨w1.heap.size+1,0,none⟩=some (.pointer (some ⟨db,0,none⟩)):=by rw[ah hb1];rfl
 refine fI (α:=DE Unit) (xs:=D.all) (Rd:=fun _=>False) (encs:=fun e=>#[.string e.k,.agg #[]]) rfl (by decide) (gf:=373) (lb:=#[dp (w1.heap.size+1)]) rfl trivial (enters_of (c:=_) Tryz.func373 (by kernel_rfl) rfl)
  (fun W' hk=>ed.LM (20-1) _ db D W' (by decide) (kZ hk c2) H.out.wf (((H.out.d.keeps hkg (by simp)).keeps hk0 (by simp)).keeps (hk.keeps (bs:=[]) (fun _ _ _=>trivial)) (by simp))) (fun _=>rfl)
  (fun pre G H X=>∃ g c,MeR w.heap.size w1.heap.size (pre.map (fun e=>e.k)) G H X (.slice (some ⟨g,0,none⟩) pre.length c))
  (fun b=>b=w1.heap.size∨b=w.heap.size) (fun b=>b=w1.heap.size∨b=w.heap.size) ?hI ?h0 ?hG ?hH ?a1 ?assign ?body ?done
 case assign=>
  intro l x X K hK
  gi_wp2
  exact hK
 case hI=>rintro pre G H A B ⟨g,c,h1⟩ hk;exact⟨g,c,h1.lW hk⟩
 case h0=>
  refine⟨_,_,hb0,ue.aN hk0,?_,?_⟩
  ·rintro b (rfl|hb)
   ·exact .inl rfl
   ·simp[Value.ownBlock] at hb;exact .inr hb.symm
  ·rintro b (rfl|hb)
   ·exact .inl rfl
   ·simp[Value.ownBlock] at hb;exact .inr hb.symm
 case hG=>rintro b (rfl|rfl)<;>omega
 case hH=>rintro b (rfl|rfl)<;>exact⟨by omega,id⟩
 case body=>
  rintro l pre x rest G H' X hx ⟨va,fD,hI⟩;have hlx:=congrArg List.length hx;rw[aM,List.length_cons,←H.out.wf.n,H.out.n,←HM.out] at hlx;have vC:=hlt hI.o;have fC:=ae (fun g cap w5 (hp:eW b9 1 9 w.heap.size X w5 (.slice (some ⟨va,0,none⟩) pre.length fD) (pre.map (fun e=>e.k)) x.k g pre.length cap)=>hI.step hp);have o1:X.cell? ⟨w1.heap.size,0,none⟩=some (.slice (some ⟨va,0,none⟩) pre.length fD):=by rw[ah hI.o];rfl
  have fN:=ae hI.row
  have gA:=ae (show ∀ (a:Act) (w6:World) (g c:Nat),(∃ G' H1,MeR w.heap.size w1.heap.size (pre.map (fun e=>e.k)++[x.k]) G' H1 w6 (.slice (some ⟨g,0,none⟩) (pre.length+1) c)∧(∀ b,G' b→G b∨X.heap.size≤b)∧(∀ b,H1 b→H' b∨X.heap.size≤b)∧KP (fun b=>¬H' b) X w6)→rA (fun pre G H X=>∃ g c,MeR w.heap.size w1.heap.size (pre.map (fun e=>e.k)) G H X (.slice (some ⟨g,0,none⟩) pre.length c)) (pre++[x]) G H' X .normal a w6 from fun a w6 g c h=>by
   show ∃ G' H1,(∃ g c,MeR w.heap.size w1.heap.size ((pre++[x]).map (fun e=>e.k)) G' H1 w6 (.slice (some ⟨g,0,none⟩) (pre++[x]).length c))∧(∀ b,G' b→G b∨X.heap.size≤b)∧(∀ b,H1 b→H' b∨X.heap.size≤b)∧KP (fun b=>¬H' b) X w6
   rw[aZ,aM];obtain⟨G',H1,a1,a2,a3,a4⟩:=h
   exact⟨G',H1,⟨g,c,a1⟩,a2,a3,a4⟩)
  have hpl:pre.length=(pre.map (fun e=>e.k)).length:=(aU _).symm;have vV:=ae hpl;obtain⟨pn,hpn⟩:∃ pn,pre.length=pn:=⟨_,rfl⟩;rw[hpn] at fC o1 fN vV gA;have hm1:pn+1≤maxLen:=by unfold maxLen;omega
  have hm2:(pn+1)*16≤140737488355328:=by omega
  have uJ:w.heap.size≤X.heap.size:=by omega
  clear hI hx hlx hpl hpn
  gi_wp2_with (gi_at_builtin;refine su rfl _ _ 32 rfl b9 1 9 w.heap.size i9 _ 16 Tryz.underlying32 hi9 iV iA im rfl dR (.slice (some ⟨va,0,none⟩) pn fD) pn _ x.k rfl fN.out vV.out 9 rfl 1 rfl hm1 hm2 uJ ?_;intro g cap w5 hp;obtain⟨⟨u5,o5⟩,f5,hfin⟩:=fC.out g cap w5 hp;have HF:=ae hfin;clear hp hfin o1)
  exact gA.out ⟨#[],[]⟩ _ _ _ HF.out
 case done=>
  rintro Dd G H' X YH ⟨g,cap,hI⟩ Oe hk hd;have Tt:=hlt hd;have hml:(D.all.map (fun e=>e.k)).length=D.all.length:=aU _;have hrow:=hI.row;rw[←hml] at hrow;have hgl:=(hrow.lt g rfl).2;have hg0:w.heap.size≤g:=(hrow.lt g rfl).1;have hgo:g≠w1.heap.size:=fun e=>hrow.bw hI.o (by decide) (by rw[←e];rfl)
  have hgd:g≠Dd:=fun e=>oU hrow hd (by rw[←e];rfl)
  have o1:X.cell? ⟨w1.heap.size,0,none⟩=some (.slice (some ⟨g,0,none⟩) D.all.length cap):=by rw[ah hI.o];rfl
  have DZ:=ae (Eo w.heap.size g cap _ X hrow (by rw[hml,←H.out.wf.n,H.out.n,←HM.out];omega) hgl);rw[hml] at DZ;have ZH:=ae hI.o;have HD:=ae hd;have HK:=ae hk;generalize D.all.length=dn at *
  clear hI hrow hk hd Oe
  gi_wp2_with (refine⟨trivial,?_⟩;gi_at_call 372;refine(fw.2 DZ.out).mono ?_;rintro e w5 ⟨rfl,ys,hy1,hy2,hy3,hy4⟩;have o5:w5.cell? ⟨w1.heap.size,0,none⟩=some (.slice (some ⟨g,0,none⟩) dn cap):=(ez (a:=⟨w1.heap.size,0,none⟩) (hy4.block _ (hlt ZH.out) (by simp;exact fun e=>hgo e.symm))).trans o1;have xt:=ae hy1;have Tx:=ae hy2;have Mu:=ae hy3;have Vp:=ae hy4;clear hy1 hy2 hy3 hy4 o1)
  have hd5:w5.heap[Dd]?=some (.deferred (some [])):=Vp.out.get HD.out (by simp;exact fun e=>hgd e.symm);refine⟨by simp,.inl ⟨_,_,rfl,ky hd5,?_⟩⟩;refine⟨_,results_tmp rfl _ _ _,_,ys,rfl,?_,?_,?_,?_⟩
  ·exact Mu.out.bY (fun b hb=>dL (fun e=>hgd (by simp[Value.ownBlock] at hb;omega)))
  ·exact CG (xt.out.trans H.out.all) hnd Tx.out
  ·exact fun x=>(xt.out.trans H.out.all).mem_iff
  ·have k1:KP (fun b=>b<w.heap.size) W2 X:=HK.out.mono (fun b _ hb hc=>by rcases hc with rfl|rfl<;>omega);have k2:KP (fun b=>b<w.heap.size) X w5:=KP.il Vp.out (fun b _ hb hm=>by simp at hm;omega);have k3:=((((KP.il ZF.out (G:=fun b=>b<w.heap.size) (fun _ _ _=>by simp)).trans (KP.il ME.out (fun _ _ _=>by simp))).trans k1).trans k2).putObj (l:=Dd) (fun hc=>by omega) (.deferred none);exact k3.keeps (fun b hb _=>hb)
end jw
namespace jw
open ks (af ae hlt ah bC alloc_old aG aX aT dp)
theorem Hf (v:Value) (w:World):Calls Tryz.prog 319 #[v] w fun r w'=>r=.returned (.int .i64 1)∧af [] w w':=by
 go_enter Tryz.func319,Tryz.ntmps319
 go_wp2
 go_ret;exact⟨rfl,af.refl _ _⟩
theorem Iz (u:Value) (w:World):Calls Tryz.prog 325 #[.agg #[u]] w fun r w'=>r=.returned (.int .i64 2)∧af [] w w':=by
 go_enter Tryz.func325,Tryz.ntmps325
 go_wp2
 go_ret;exact⟨rfl,(af.refl _ _).alloc _⟩
theorem DF (u:Value) (w:World):Calls Tryz.prog 335 #[.agg #[u]] w fun r w'=>r=.returned (.int .i64 3)∧af [] w w':=by
 go_enter Tryz.func335,Tryz.ntmps335
 go_wp2
 go_ret;exact⟨rfl,(af.refl _ _).alloc _⟩
theorem Fq (u:Value) (w:World):Calls Tryz.prog 369 #[.agg #[u]] w fun r w'=>r=.returned (.int .i64 4)∧af [] w w':=by
 go_enter Tryz.func369,Tryz.ntmps369
 go_wp2
 go_ret;exact⟨rfl,(af.refl _ _).alloc _⟩
theorem EP (u:Value) (w:World):Calls Tryz.prog 395 #[.agg #[u]] w fun r w'=>r=.returned (.int .i64 5)∧af [] w w':=by
 go_enter Tryz.func395,Tryz.ntmps395
 go_wp2
 go_ret;exact⟨rfl,(af.refl _ _).alloc _⟩
theorem Ek (v:Value) (w:World):Calls Tryz.prog 318 #[v] w fun r w'=>r=.returned (.bool false)∧af [] w w':=by
 go_enter Tryz.func318,Tryz.ntmps318
 go_wp2
 go_ret;exact⟨rfl,af.refl _ _⟩
theorem Ej (k ob:Nat) (s t:ByteArray) (iv pv rv:Value) (w:World) (h:w.heap[ob]?=some (uS k t iv pv rv)):Calls Tryz.prog 320 #[.string s,dp ob] w fun r w'=>r=.returned (.tuple #[])∧w'.heap[ob]?=some (uS k s iv pv rv)∧af [ob] w w':=by
 have c1:w.cell? ⟨ob,1,none⟩=some (.string t):=by rw[ah h];rfl
 have f1:w.frozen? ⟨ob,1,none⟩=false:=bC h 1;have H:=ae h;clear h;unfold dp;go_enter Tryz.func320,Tryz.ntmps320
 go_wp2
 go_end0
 refine⟨rfl,?_,(af.refl _ _).setCell (p:=⟨ob,1,none⟩) (.inl (by simp)) _⟩;rw[aX H.out 1 _];rfl
theorem Sx (db n:Nat) (w:World) (h:w.cell? ⟨db,1,none⟩=some (.int .i64 (n:Int))):Calls Tryz.prog 327 #[dp db] w fun r w'=>r=.returned (.int .i64 (n:Int))∧w=w':=by
 unfold dp;go_enter Tryz.func327,Tryz.ntmps327
 go_wp2
 go_ret;exact⟨rfl,rfl⟩
theorem E4 (db n:Nat) (w:World) (h:w.cell? ⟨db,1,none⟩=some (.int .i64 (n:Int))):Calls Tryz.prog 324 #[.agg #[dp db]] w fun r w'=>r=.returned (.bool (decide (n=0)))∧af [] w w':=by
 have hl:=du w _ h;have h2:(w.alloc (.cells #[dp db] 163)).cell? ⟨db,1,none⟩=some (.int .i64 (n:Int)):=kZ ((ks.KP.refl _ _).alloc _) h;have HL:=ae (Sx db n _ h2);have hk:=ae ((af.refl [] w).alloc (.cells #[dp db] 163));have hd:decide ((n:Int)=0)=decide (n=0):=by simp
 unfold dp at HL hk ⊢;clear h h2;go_enter Tryz.func324,Tryz.ntmps324
 go_wp2_with fail
 refine HL.out.mono ?_;rintro r w2 ⟨rfl,rfl⟩;go_wp2_with fail
 go_ret;refine⟨?_,hk.out⟩;have e:((n:Int) == 0)=decide (n=0):=by rw[eL];simp
 rw[←e];rfl
open ks (af ae hlt ah bC alloc_old aG aX aT dp DM)
theorem DR (B rb db:Nat) (D:DM Unit) (cost:Nat) (ps:List ByteArray) (w:World) (h:ed.nO B w rb db D cost ps):Calls Tryz.prog 368 #[.agg #[dp rb]] w fun r w'=>r=.returned (.bool (decide (ps.length=0)))∧af [] w w':=by
 have HL:=ae (ed.Fj B rb db D cost ps _ (h.aN ((af.refl _ w).alloc (.cells #[dp rb] 182))));have hk:=ae ((af.refl [] w).alloc (.cells #[dp rb] 182));obtain⟨n,hn⟩:∃ n,ps.length=n:=⟨_,rfl⟩;rw[hn] at HL ⊢;unfold dp at HL hk ⊢;clear h hn;go_enter Tryz.func368,Tryz.ntmps368
 go_wp2_with fail
 refine HL.out.mono ?_;rintro r w2 ⟨rfl,rfl⟩;go_wp2_with fail
 go_ret;refine⟨?_,hk.out⟩;have e:((n:Int) == 0)=decide (n=0):=by rw[eL];simp
 rw[←e];rfl
theorem DQ (B rb db ob k:Nat) (D:DM Unit) (cost:Nat) (ps:List ByteArray) (t:ByteArray) (pv rv:Value) (w:World) (h:ed.nO B w rb db D cost ps) (hn:ps.length≤1048576) (hnd:ps.Nodup) (ho:w.heap[ob]?=some (uS k t (.slice none 0 0) pv rv)):
  Calls Tryz.prog 370 #[.agg #[dp rb],dp ob] w fun r w'=>r=.returned (.tuple #[])∧∃ v ys,w'.heap[ob]?=some (uS k t v pv rv)∧bF b9 1 9 w.heap.size w' v ys∧ys.Pairwise tlt∧(∀ x,x∈ys↔x∈ps)∧af [ob] w w':=by
 have hk1:=(af.refl [] w).alloc (.cells #[dp rb] 182);have HP:=ae (KF B rb db D cost ps _ (h.aN hk1) hn hnd);have rP:=ae hk1;have HO:=ae (hk1.get ho (by simp));have HOL:=ae (hlt ho);clear h ho hk1;unfold dp at HP rP HO ⊢;go_enter Tryz.func370,Tryz.ntmps370
 go_wp2_with fail
 refine HP.out.mono ?_;rintro r w2 ⟨v,ys,rfl,h1,h2,h3,h4⟩;obtain⟨va,fD,rfl,_,_,_,_⟩:=h1.form;have ho2:=h4.get HO.out (by simp);have c3:w2.cell? ⟨ob,2,none⟩=some (.slice none 0 0):=by rw[ah ho2];rfl
 have f3:w2.frozen? ⟨ob,2,none⟩=false:=bC ho2 2;have H1:=ae h1;have H2:=ae h2;have H3:=ae h3;have H4:=ae h4;have AL:=ae ho2;obtain⟨va,fD,hv,_,_,_,_⟩:=h1.form;have Gu:=ae (h1.bw ho2 (by decide));clear h1 h2 h3 h4 ho2;go_wp2_with fail
 go_end0
 have TC:=HOL.out;refine⟨rfl,.slice va ys.length fD,ys,?_,?_,H2.out,H3.out,((rP.out.trans H4.out).mono (by simp)).setCell (p:=⟨ob,2,none⟩) (.inl (by simp)) _⟩
 ·rw[aX AL.out 2 _];rfl
 ·refine bF.bY (w:=w2) (H1.out.Bb (fun b hb=>?_)) (fun b hb=>aT _ (fun e=>Gu.out ?_))
  ·have:=(H1.out.lt b hb).1;rw[de] at this;omega
  ·rw[hb];exact congrArg some e
theorem BN (B rb db:Nat) (D:DM ByteArray) (cost:Nat) (ps:List (ByteArray×ByteArray)) (w:World) (h:sd.kb B w rb db D cost ps):Calls Tryz.prog 334 #[.agg #[dp rb]] w fun r w'=>r=.returned (.bool (decide (ps.length=0)))∧af [] w w':=by
 have HL:=ae (sd.F6 B rb db D cost ps _ (h.aN ((af.refl _ w).alloc (.cells #[dp rb] 173))));have hk:=ae ((af.refl [] w).alloc (.cells #[dp rb] 173));obtain⟨n,hn⟩:∃ n,ps.length=n:=⟨_,rfl⟩;rw[hn] at HL ⊢;unfold dp at HL hk ⊢;clear h hn;go_enter Tryz.func334,Tryz.ntmps334
 go_wp2_with fail
 refine HL.out.mono ?_;rintro r w2 ⟨rfl,rfl⟩;go_wp2_with fail
 go_ret;refine⟨?_,hk.out⟩;have e:((n:Int) == 0)=decide (n=0):=by rw[eL];simp
 rw[←e];rfl
theorem BM (B rb db ob k:Nat) (D:DM ByteArray) (cost:Nat) (ps:List (ByteArray×ByteArray)) (t:ByteArray) (iv rv:Value) (w:World) (h:sd.kb B w rb db D cost ps) (hn:ps.length≤1048576) (hnd:(ps.map (fun x=>x.1)).Nodup) (ho:w.heap[ob]?=some (uS k t iv (.slice none 0 0) rv)):
  Calls Tryz.prog 336 #[.agg #[dp rb],dp ob] w fun r w'=>r=.returned (.tuple #[])∧∃ v ys,w'.heap[ob]?=some (uS k t iv v rv)∧bF gJ 2 51 w.heap.size w' v ys∧ys.Pairwise (fun a b=>tlt a.1 b.1)∧(∀ x,x∈ys↔x∈ps)∧af [ob] w w':=by
 have hk1:=(af.refl [] w).alloc (.cells #[dp rb] 173);have HP:=ae (Ra B rb db D cost ps _ (h.aN hk1) hn hnd);have rP:=ae hk1;have HO:=ae (hk1.get ho (by simp));have HOL:=ae (hlt ho);clear h ho hk1;unfold dp at HP rP HO ⊢;go_enter Tryz.func336,Tryz.ntmps336
 go_wp2_with fail
 refine HP.out.mono ?_;rintro r w2 ⟨v,ys,rfl,h1,h2,h3,h4⟩;obtain⟨va,fD,rfl,_,_,_,_⟩:=h1.form;have ho2:=h4.get HO.out (by simp);have c3:w2.cell? ⟨ob,3,none⟩=some (.slice none 0 0):=by rw[ah ho2];rfl
 have f3:w2.frozen? ⟨ob,3,none⟩=false:=bC ho2 3;have H1:=ae h1;have H2:=ae h2;have H3:=ae h3;have H4:=ae h4;have AL:=ae ho2;obtain⟨va,fD,hv,_,_,_,_⟩:=h1.form;have Gu:=ae (h1.bw ho2 (by decide));clear h1 h2 h3 h4 ho2;go_wp2_with fail
 go_end0
 have TC:=HOL.out;refine⟨rfl,.slice va ys.length fD,ys,?_,?_,H2.out,H3.out,((rP.out.trans H4.out).mono (by simp)).setCell (p:=⟨ob,3,none⟩) (.inl (by simp)) _⟩
 ·rw[aX AL.out 3 _];rfl
 ·refine bF.bY (w:=w2) (H1.out.Bb (fun b hb=>?_)) (fun b hb=>aT _ (fun e=>Gu.out ?_))
  ·have:=(H1.out.lt b hb).1;rw[de] at this;omega
  ·rw[hb];exact congrArg some e
def gP (t:TypeId) (u:Value):Obj:=.cells #[.iface t u] 113 (0,0)
theorem NP (s:ByteArray) (w:World):Calls Tryz.prog 51 #[.string s] w fun r w'=>r=.returned (dp w.heap.size)∧w.alloc (gP 152 (.string s))=w':=by
 unfold dp gP;go_enter Tryz.func51,Tryz.ntmps51
 go_wp2
 go_ret;exact⟨rfl,rfl⟩
theorem NQ (b:Nat) (w:World):Calls Tryz.prog 54 #[dp b] w fun r w'=>r=.returned (dp w.heap.size)∧w.alloc (gP 163 (.agg #[dp b]))=w':=by
 unfold dp gP;go_enter Tryz.func54,Tryz.ntmps54
 go_wp2
 go_ret;exact⟨rfl,rfl⟩
theorem Io (b:Nat) (w:World):Calls Tryz.prog 57 #[dp b] w fun r w'=>r=.returned (dp w.heap.size)∧w.alloc (gP 173 (.agg #[dp b]))=w':=by
 unfold dp gP;go_enter Tryz.func57,Tryz.ntmps57
 go_wp2
 go_ret;exact⟨rfl,rfl⟩
theorem Kz (b:Nat) (w:World):Calls Tryz.prog 60 #[dp b] w fun r w'=>r=.returned (dp w.heap.size)∧w.alloc (gP 182 (.agg #[dp b]))=w':=by
 unfold dp gP;go_enter Tryz.func60,Tryz.ntmps60
 go_wp2
 go_ret;exact⟨rfl,rfl⟩
theorem Ky (b:Nat) (w:World):Calls Tryz.prog 63 #[dp b] w fun r w'=>r=.returned (dp w.heap.size)∧w.alloc (gP 193 (.agg #[dp b]))=w':=by
 unfold dp gP;go_enter Tryz.func63,Tryz.ntmps63
 go_wp2
 go_ret;exact⟨rfl,rfl⟩
end jw
end Go.Proofs.YthpdlidbaojlbaaGreatDoor
