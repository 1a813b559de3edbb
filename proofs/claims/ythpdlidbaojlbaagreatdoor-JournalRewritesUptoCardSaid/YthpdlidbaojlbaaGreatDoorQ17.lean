/- A dict of nothing: find, hang, moving, Len, New. -/
import Derived.Test.YthpdlidbaojlbaaGreatDoorQ16
import Derived.Test.YthpdlidbaojlbaaGreatDoorShelfS
set_option linter.unusedVariables false
set_option linter.unusedSimpArgs false
set_option maxHeartbeats 4000000
open Go.ChangeShapes Go.WideShapes Go.RowKit
namespace Go.Proofs.YthpdlidbaojlbaaGreatDoor
namespace jw
open ks (af ae hlt ah bC alloc_old aG aX aT dp)
open Go.Sort (onCells putCells HoldsK flatK size_flatK get_flatK PermIn SortedIn SWO grow)
section
variable {α:Type} [Inhabited α] {enc:α→List Value} {k ty B g cap n:Nat} {w:World} {xs:List α}
theorem Hz (he:∀ x,(enc x).length=k) (hk:0<k) (h:bF enc k ty B w (.slice (some ⟨g,0,none⟩) n cap) xs):HoldsK enc k w g 0 xs.toArray:=by
 intro j hj;rw[size_flatK,cJ] at hj;have hi:j / k<xs.length:=kh (by rw[aK];exact hj);have hc:j % k<k:=dq _ hk;have hd:j / k*k+j % k=j:=by rw[aK];exact cY j k
 have hx:xs[j / k]?=some xs[j / k]:=ag hi;have hcl:j % k<(enc xs[j / k]).length:=by rw[he];exact hc
 have hu:(enc xs[j / k])[j % k]?=some (enc xs[j / k])[j % k]:=ag hcl;rw[bD];refine⟨?_,h.frozen j⟩;have:=h.cell he hx hu;rw[hd] at this;rw[this,get_flatK _ _ _ _ (by rw[cJ];exact hj)];simp only[id]
 congr 1
 have e1:xs.toArray[j / k]! = xs[j / k]:=by rw[gS _ _ (by simpa using hi)];simp
 rw[e1,gS (enc xs[j / k]) (j % k) hcl]
theorem yB (he:∀ x,(enc x).length=k) (hk:0<k) (h:bF enc k ty B w (.slice (some ⟨g,0,none⟩) n cap) xs) {ys:List α} (hy:ys.length=xs.length) (m:Nat) (os:Array Obj):
  bF enc k ty B (sortWorldK enc k w g 0 m ys.toArray os) (.slice (some ⟨g,0,none⟩) n cap) ys∧af [g] w (sortWorldK enc k w g 0 m ys.toArray os):=by
 obtain⟨hl,hr⟩:=id h
 rcases hr with⟨h1,_⟩|⟨g',cap',cur,hv,hb,hg,h1,h2,h3,h4⟩
 ·cases h1
 injection hv with e1 e2 e3
 injection e1 with e1
 injection e1 with e1
 subst e1;subst e2;subst e3;have hgl:=hlt hg;have hheap:(sortWorldK enc k w g 0 m ys.toArray os).heap=w.heap.modify g (onCells (putCells id 0 (flatK enc k ys.toArray)))++os:=rfl
 have hg2:(sortWorldK enc k w g 0 m ys.toArray os).heap[g]?=some (.cells (putCells id 0 (flatK enc k ys.toArray) cur) ty (0,0)):=by rw[hheap,pf (by simpa using hgl),jQ,aQ rfl,hg];rfl
 have hsz:(putCells id 0 (flatK enc k ys.toArray) cur).size=cur.size:=by unfold putCells;simp
 refine⟨⟨by rw[iF he],.inr ⟨g,cap,_,by rw[hy],hb,hg2,by omega,h2,by rw[hsz];exact h3,?_⟩⟩,⟨rfl,rfl,rfl,by rw[hheap];simp,fun b hb1 hb2=>?_⟩⟩
 ·apply dG
  intro j;rw[dP,hy]
  by_cases hj:j<xs.length*k
  ·rw[aQ hj,ff]
   have hjc:j<cur.size:=by rw[h3];exact aP hj (aI k h1)
   have hi:j / k<ys.length:=kh (by rw[aK,hy];exact hj);have hc:j % k<k:=dq _ hk;have hd:j / k*k+j % k=j:=by rw[aK];exact cY j k
   have hf:=pK he ys (j / k) (j % k) ys[j / k] (ag hi) hc;rw[hd] at hf;rw[hf];unfold putCells;rw[Array.getElem?_mapIdx,Array.getElem?_eq_getElem hjc];have hjs:j<ys.toArray.size*k:=by rw[cJ,hy];exact hj
   simp only[Option.map_some,bz,yj,bD,size_flatK,hjs,kY,Nat.sub_zero,id];rw[get_flatK _ _ _ _ hjs];have e1:ys.toArray[j / k]! = ys[j / k]:=by rw[gS _ _ (by simpa using hi)];simp
   have hcl:j % k<(enc ys[j / k]).length:=by rw[he];exact hc
   rw[e1,gS (enc ys[j / k]) (j % k) hcl,ag hcl]
  ·rw[aJ hj,bR (by rw[iF he,hy];omega)]
 ·rw[hheap,pf (by simpa using hb1),jQ,aJ (fun e=>hb2 (by rw[e];simp))]
end
end jw
namespace jw
open Go.Shelf
open ks (af ae hlt ah bC alloc_old aG aX aT dp)
open Go.Sort (onCells putCells HoldsK flatK size_flatK get_flatK PermIn SortedIn SWO grow)
def zE (x y:ByteArray×ByteArray):Int:=Lib.compareBytes x.1.data.toList y.1.data.toList
theorem CU:SWO (ltOf zE):=by
 refine⟨fun x=>?_,fun x y z h1 h2=>?_,fun x y z h1 h2=>?_⟩
 ·unfold ltOf zE;rw[(rk.cmp_eq _ _).2 rfl];rfl
 ·unfold ltOf zE at *;rw[cz] at *;exact rk.qC _ _ _ h1 h2
 ·unfold ltOf zE at *;rw[lB] at *;intro h3;have a1:=rk.mQ x.1.data.toList y.1.data.toList;have a2:=rk.mQ y.1.data.toList z.1.data.toList;have a3:=rk.mQ x.1.data.toList z.1.data.toList
  rcases vL x.1.data.toList y.1.data.toList with e|e|e
  ·omega
  ·rw[(rk.cmp_eq _ _).1 e] at h3;exact h2 h3
  ·rcases vL y.1.data.toList z.1.data.toList with e'|e'|e'
   ·omega
   ·rw[←(rk.cmp_eq _ _).1 e'] at h3;exact h1 h3
   ·have h4:Lib.compareBytes y.1.data.toList x.1.data.toList<0:=by omega
    have h5:Lib.compareBytes z.1.data.toList y.1.data.toList<0:=by omega
    have h6:=rk.qC _ _ _ h5 h4;omega
theorem Kh (x y:ByteArray×ByteArray) (w:World):Calls Tryz.prog 341 #[.agg #[.string x.1,.string x.2],.agg #[.string y.1,.string y.2]] w fun r w'=>r=.returned (.int .i64 (zE x y))∧
  w'=(w.alloc (.cells #[.string x.1,.string x.2] 51)).alloc (.cells #[.string y.1,.string y.2] 51):=by
 have HC:=ae (fun W=>LW x.1 y.1 W);obtain⟨W2,hW2⟩:∃ W2,W2=(w.alloc (.cells #[.string x.1,.string x.2] 51)).alloc (.cells #[.string y.1,.string y.2] 51):=⟨_,rfl⟩;have h0:W2.heap[w.heap.size]?=some (.cells #[.string x.1,.string x.2] 51 (0,0)):=by rw[hW2];exact alloc_old _ (aG _ _)
 have h1:W2.heap[w.heap.size+1]?=some (.cells #[.string y.1,.string y.2] 51 (0,0)):=by rw[hW2];have:=aG (w.alloc (.cells #[.string x.1,.string x.2] 51)) (.cells #[.string y.1,.string y.2] 51);rw[de] at this;exact this
 have c0:W2.cell? ⟨w.heap.size,0,none⟩=some (.string x.1):=by rw[ah h0];rfl
 have c1:W2.cell? ⟨w.heap.size+1,0,none⟩=some (.string y.1):=by rw[ah h1];rfl
 clear h0 h1;rw[←hW2];have HW:=ae hW2;go_enter Tryz.func341,Tryz.ntmps341
 go_upto_region 1 with(fail)
 rw[←hW2];clear hW2;go_wp2_with fail
 refine(HC.out _).mono ?_;rintro r w3 ⟨rfl,rfl⟩;go_wp2_with fail
 go_ret;exact⟨rfl,rfl⟩
theorem Hy (g off size:Nat) (w:World):CmpLays Tryz.prog 341 #[] gJ 2 zE g off size w:=by
 intro m os dk hd x y;refine(Kh x y _).mono ?_;rintro r w' ⟨rfl,rfl⟩;refine⟨rfl,0,#[.cells #[.string x.1,.string x.2] 51 (0,0),.cells #[.string y.1,.string y.2] 51 (0,0)],?_⟩;unfold grow World.alloc World.drewN;simp only[Nat.add_zero]
 congr 1
theorem Ep (B g cap:Nat) (xs:List (ByteArray×ByteArray)) (w:World) (h:bF gJ 2 51 B w (.slice (some ⟨g,0,none⟩) xs.length cap) xs) (hn:xs.length<4611686018427387904) (hg:g<w.heap.size):
  Calls Tryz.prog 340 #[.slice (some ⟨g,0,none⟩) xs.length cap,.func (.func 341) #[] #[]] w fun r w'=>r=.returned (.tuple #[])∧
   ∃ ys,ys.Perm xs∧ys.Pairwise (fun a b=>¬tlt b.1 a.1)∧bF gJ 2 51 B w' (.slice (some ⟨g,0,none⟩) xs.length cap) ys∧af [g] w w':=by
 have:=AnyQ.slices_SortFunc (P:=Tryz.prog) (ρ:=Tryz.sortPair_ren) Tryz.sortPair 2 (fun w=>by kernel_rfl) (fun w=>by kernel_rfl) gJ (fun _=>rfl) (fun x v hv=>by simp[gJ] at hv;rcases hv with rfl|rfl<;>rfl) zE CU 341 #[] g 0 cap xs.toArray w
  (enters_of (c:=_) Tryz.func341 (by kernel_rfl) rfl) (Hy g 0 _ w) (Hz (fun _=>rfl) (by decide) h) hg (by simpa using hn)
 rw[cJ] at this;refine Calls.mono this ?_;rintro r w' ⟨rfl,d',m,os,hp,hs,rfl⟩;obtain⟨p1,p2,p3⟩:=hp;have hl:d'.toList.length=xs.length:=by rw[Array.length_toList,p1,cJ]
 have hperm:d'.toList.Perm xs:=by
  have e1:d'.extract 0 xs.toArray.size=d':=by rw[←p1];simp
  have e2:xs.toArray.extract 0 xs.toArray.size=xs.toArray:=by simp
  rw[cJ] at e1 e2;rw[e1,e2] at p3;simpa using p3
 obtain⟨o1,o2⟩:=yB (enc:=gJ) (k:=2) (fun _=>rfl) (by decide) h (ys:=d'.toList) hl m os;refine⟨rfl,d'.toList,hperm,?_,by simpa using o1,by simpa using o2⟩;rw[fB];intro i j hi hj hij;have:=hs i j (bz _) hij (by rw[←hl];exact hj);unfold ltOf at this;rw[lB] at this;have hi':i<d'.size:=by simpa using hi
 have hj':j<d'.size:=by simpa using hj
 rw[gS d' i hi',gS d' j hj'] at this;rw[Array.getElem_toList,Array.getElem_toList];exact this
open ks (af ae hlt ah bC alloc_old aG aX aT dp KP pZ eS fI rA DM DE bu)
attribute [local go_sem] Oper.semAt_some
theorem su {P:Program} {α:Type} {W:World} {ob:Obj} {ops:Array Oper} {rest:List Oper} {o:Oper} {a:Act} {Q:Exit→Act→World→Prop} {l rn:Nat} (hgd:o.guard=none) (s x:Operand) (t:TypeId)
  (ho:o.op=.call { callee:=.builtin .append,args:=#[s,x],argTypes:=#[t,t] }) (enc:α→List Value) (k:Nat) (e:TypeId) (B:Nat) (i:TypeInfo) (z:Value) (bytes:Nat)
  (ht:P.underlying t=some (.slice e)) (hi:P.info? e=some i) (hz:i.zero=some z) (hsize:i.size=k) (hby:i.bytes=bytes) (hzs:z.cells.size=k) (he:Enc enc k)
  (v:Value) (n:Nat) (xs:List α) (y:α) (hs:a.eval s=v) (hown:bF enc k e B W v xs) (hn:n=xs.length) (et:TypeId) (zI:ob=.cells (enc y).toArray et) (c:Nat) (hx:a.eval x=.slice (some ⟨W.heap.size,0,none⟩) 1 c)
  (h63:n+1≤maxLen) (hbytes:(n+1)*bytes≤140737488355328) (hB:B≤W.heap.size)
  (h:∀ g cap w',eW enc k e B W w' v xs y g n cap→wpListIn (Fence.wide.inRound l) rn P ops Q rest (a.put o.dst (.slice (some ⟨g,0,none⟩) (n+1) cap)) w'):wpListIn (Fence.wide.inRound l) rn P ops Q (o::rest) a (W.alloc ob):=
 wpListIn_plain hgd fun _ hK=>ye (fun c hc=>by rw[ho] at hc;cases hc) (AR s x t ho enc k e B i z bytes ht hi hz hsize hby hzs he v n xs y hs hown hn et zI c hx h63 hbytes hB fun g cap w' hp=>hK _ _ (h g cap w' hp))
theorem NY:(Tryz.prog.info? 51).map (fun i=>(i.zero,i.size,i.bytes))=some (some (.agg #[.string ByteArray.empty,.string ByteArray.empty]),2,32):=by kernel_rfl
def Kf (v:Value):Obj:=.cells #[v] 33 (0,0)
structure PaR (B bo:Nat) (xs:List (ByteArray×ByteArray)) (G H:eS) (X:World) (v:Value):Prop where
 o:X.heap[bo]?=some (Kf v)
 row:bF gJ 2 51 B X v xs
 g:∀ b,b=bo∨v.ownBlock=some b→G b
 h:∀ b,b=bo∨v.ownBlock=some b→H b
theorem PaR.lW {B bo:Nat} {xs:List (ByteArray×ByteArray)} {G H:eS} {X Y:World} {v:Value} (h:PaR B bo xs G H X v) (hk:KP G X Y):PaR B bo xs G H Y v:=⟨(hk.block _ (hlt h.o) (h.g _ (.inl rfl))).trans h.o,h.row.bY (fun b hb=>hk.block b (h.row.lt b hb).2 (h.g b (.inr hb))),h.g,h.h⟩
theorem PaR.step {B bo:Nat} {xs:List (ByteArray×ByteArray)} {G H:eS} {X w5:World} {v:Value} {s:ByteArray×ByteArray} {g n cap:Nat} (h:PaR B bo xs G H X v) (hp:eW gJ 2 51 B X w5 v xs s g n cap):
  (∃ u,w5.cell? ⟨bo,0,none⟩=some u)∧w5.frozen? ⟨bo,0,none⟩=false∧
  ∃ G' H',PaR B bo (xs++[s]) G' H' (w5.setCell ⟨bo,0,none⟩ (.slice (some ⟨g,0,none⟩) (n+1) cap)) (.slice (some ⟨g,0,none⟩) (n+1) cap)∧(∀ b,G' b→G b∨X.heap.size≤b)∧(∀ b,H' b→H b∨X.heap.size≤b)∧KP (fun b=>¬H b) X (w5.setCell ⟨bo,0,none⟩ (.slice (some ⟨g,0,none⟩) (n+1) cap)):=by
 have Gu:v.ownBlock≠some bo:=h.row.bw h.o (by decide);have o1:w5.heap[bo]?=some (Kf v):=hp.bY.get h.o (by simp;exact Gu)
 have hg:g≠bo:=by
  rcases hp.at_ with e|e
  ·exact fun e2=>Gu (by rw[←e2];exact e)
  ·have:=hlt h.o;omega
 have hkp:KP (fun b=>¬H b) X (w5.setCell ⟨bo,0,none⟩ (.slice (some ⟨g,0,none⟩) (n+1) cap)):=by refine KP.setCell (p:=⟨bo,0,none⟩) ?_ (fun hc=>by have:=hc.2;exact this (h.h bo (.inl rfl))) _;exact KP.il (G:=fun b=>¬H b) hp.bY (fun b _ hb hm=>hb (h.h b (.inr (by simpa using hm))))
 refine⟨⟨_,by rw[ah o1];rfl⟩,bC o1 0,fun b=>G b∨b=g,fun b=>H b∨b=g,⟨?_,?_,?_,?_⟩,?_,?_,hkp⟩
 ·rw[aX o1 0 _];rfl
 ·exact hp.own.bY (fun b hb=>aT _ (fun e=>hg (by simp[Value.ownBlock] at hb;rw[hb];exact e)))
 ·rintro b (rfl|hb)
  ·exact .inl (h.g _ (.inl rfl))
  ·simp[Value.ownBlock] at hb;exact .inr hb.symm
 ·rintro b (rfl|hb)
  ·exact .inl (h.h _ (.inl rfl))
  ·simp[Value.ownBlock] at hb;exact .inr hb.symm
 ·rintro b (hb|rfl)
  ·exact .inl hb
  ·rcases hp.at_ with e|e
   ·exact .inl (h.g _ (.inr e))
   ·exact .inr e
 ·rintro b (hb|rfl)
  ·exact .inl hb
  ·rcases hp.at_ with e|e
   ·exact .inl (h.h _ (.inr e))
   ·exact .inr e
theorem JU {ys ps:List (ByteArray×ByteArray)} (hp:ys.Perm ps) (hn:(ps.map (fun x=>x.1)).Nodup) (hs:ys.Pairwise (fun a b=>¬tlt b.1 a.1)):ys.Pairwise (fun a b=>tlt a.1 b.1):=by
 have hn2:(ys.map (fun x=>x.1)).Nodup:=(hp.map _).nodup_iff.2 hn;rw[List.Nodup,List.pairwise_map] at hn2;refine(hs.and hn2).imp (fun {a b} h=>?_);unfold tlt at *;have h1:=rk.mQ a.1.data.toList b.1.data.toList
 rcases dy (Lib.compareBytes a.1.data.toList b.1.data.toList) 0 with h2|h2|h2
 ·exact h2
 ·exact absurd (bytes_inj ((rk.cmp_eq _ _).1 h2)) h.2
 ·exact absurd (by omega) h.1
set_option maxRecDepth 8000 in
theorem Ra (B rb db:Nat) (D:DM ByteArray) (cost:Nat) (ps:List (ByteArray×ByteArray)) (w:World) (h:sd.kb B w rb db D cost ps) (hn:ps.length≤1048576) (hnd:(ps.map (fun x=>x.1)).Nodup):
  Calls Tryz.prog 338 #[dp rb] w fun r w'=>∃ v ys,r=.returned v∧bF gJ 2 51 w.heap.size w' v ys∧ys.Pairwise (fun a b=>tlt a.1 b.1)∧(∀ x,x∈ys↔x∈ps)∧af [] w w':=by
 obtain⟨i9,hi9,iV,iA,im⟩:=cF NY;have H:=ae h;have c1:w.cell? ⟨rb,1,none⟩=some (dp db):=by rw[ah h.hd];rfl
 have HLEN:=ae (sd.F6 B rb db D cost ps w h);have O8:=ae (fun X=>sd.wO db X);clear h;refine(fw (n:=20)).1 ?_;unfold dp at c1 HLEN O8 ⊢;obtain⟨m,hm⟩:∃ m,m=ps.length:=⟨_,rfl⟩;rw[←hm] at HLEN hn;have HM:=ae hm;clear hm;refine iW Tryz.func338 rfl trivial ?_ rfl;simp only[Tryz.ntmps338,cJ,List.length_cons,List.length_nil,Nat.reduceAdd,Nat.reduceSub,fv,Array.replicate_zero,gd,fF,List.nil_append,List.cons_append]
 gi_wp2_with (first|(refine⟨trivial,?_⟩;gi_at_call 337;refine(fw.2 HLEN.out).mono ?_;rintro e w' ⟨rfl,rfl⟩)|(gi_at_make;refine wpListIn_make_own _ rfl _ _ 33 rfl w.heap.size 51 i9 _ 2 Tryz.underlying33 hi9 iV iA _ _ _ m rfl rfl ?_ ?_ ?_ ?_ ?_;go_num;(rw[im];omega);(unfold maxLen;omega);exact aq _;intro w1 ho1 hg1;have Cq:=ae ho1;have MV:=ae hg1;have hcw:(w1.alloc (.cells #[.slice (some ⟨w.heap.size,0,none⟩) 0 m] 33)).cell? ⟨rb,1,none⟩=some (.pointer (some ⟨db,0,none⟩)):=ak (af.alloc (j5 hg1) _) c1;clear ho1 hg1)|(refine⟨trivial,?_⟩;gi_at_call 339;refine(fw.2 (O8.out _)).mono ?_;rintro e w' ⟨rfl,rfl⟩))
 have hkg:af [] w w1:=j5 MV.out;have hz:((w1.alloc (.cells #[.slice (some ⟨w.heap.size,0,none⟩) 0 m] 33)).alloc (.cells #[.pointer (some ⟨db,0,none⟩)] 164)).heap.size=w1.heap.size+2:=by simp
 have hk0:af [] w1 ((w1.alloc (.cells #[.slice (some ⟨w.heap.size,0,none⟩) 0 m] 33)).alloc (.cells #[.pointer (some ⟨db,0,none⟩)] 164)):=((af.refl _ w1).alloc _).alloc _;have hb0:((w1.alloc (.cells #[.slice (some ⟨w.heap.size,0,none⟩) 0 m] 33)).alloc (.cells #[.pointer (some ⟨db,0,none⟩)] 164)).heap[w1.heap.size]?=some (Kf (.slice (some ⟨w.heap.size,0,none⟩) 0 m)):=alloc_old _ (aG _ _)
 have hb1:((w1.alloc (.cells #[.slice (some ⟨w.heap.size,0,none⟩) 0 m] 33)).alloc (.cells #[.pointer (some ⟨db,0,none⟩)] 164)).heap[w1.heap.size+1]?=some (.cells #[.pointer (some ⟨db,0,none⟩)] 164 (0,0)):=by have:=aG (w1.alloc (.cells #[.slice (some ⟨w.heap.size,0,none⟩) 0 m] 33)) (.cells #[.pointer (some ⟨db,0,none⟩)] 164);rw[de] at this;exact this
 generalize ((w1.alloc (.cells #[.slice (some ⟨w.heap.size,0,none⟩) 0 m] 33)).alloc (.cells #[.pointer (some ⟨db,0,none⟩)] 164))=W2 at *
 have ME:=ae hk0;have ZF:=ae hkg;have ue:bF gJ 2 51 w.heap.size w1 (.slice (some ⟨w.heap.size,0,none⟩) 0 m) []:=Cq.out;have hwl:=(ue.lt w.heap.size rfl).2;have c2:W2.cell? ⟨w1.heap.size+1,0,none⟩=some (.pointer (some ⟨db,0,none⟩)):=by rw[ah hb1];rfl
 refine fI (α:=DE ByteArray) (xs:=D.all) (Rd:=fun _=>False) (encs:=fun e=>#[.string e.k,.string e.v]) rfl (by decide) (gf:=343) (lb:=#[dp (w1.heap.size+1)]) rfl trivial (enters_of (c:=_) Tryz.func343 (by kernel_rfl) rfl)
  (fun W' hk=>sd.LM (20-1) _ db D W' (by decide) (kZ hk c2) H.out.wf (((H.out.d.keeps hkg (by simp)).keeps hk0 (by simp)).keeps (hk.keeps (bs:=[]) (fun _ _ _=>trivial)) (by simp))) (fun _=>rfl)
  (fun pre G H X=>∃ g c,PaR w.heap.size w1.heap.size (pre.map (fun e=>(e.k,e.v))) G H X (.slice (some ⟨g,0,none⟩) pre.length c))
  (fun b=>b=w1.heap.size∨b=w.heap.size) (fun b=>b=w1.heap.size∨b=w.heap.size) ?hI ?h0 ?hG ?hH ?a1 ?assign ?body ?done
 case assign=>
  intro l x X K hK
  gi_wp2
  exact hK
 case hI=>rintro pre G H A B ⟨g,c,h1⟩ hk;exact⟨g,c,h1.lW hk⟩
 case h0=>
  refine⟨_,_,hb0,ue.aN hk0,?_,?_⟩
  ·rintro b (rfl|hb)
   ·exact .inl rfl
   ·simp[Value.ownBlock] at hb;exact .inr hb.symm
  ·rintro b (rfl|hb)
   ·exact .inl rfl
   ·simp[Value.ownBlock] at hb;exact .inr hb.symm
 case hG=>rintro b (rfl|rfl)<;>omega
 case hH=>rintro b (rfl|rfl)<;>exact⟨by omega,id⟩
 case body=>
  rintro l pre x rest G H' X hx ⟨va,fD,hI⟩;have hlx:=congrArg List.length hx;rw[aM,List.length_cons,←H.out.wf.n,H.out.n,←HM.out] at hlx;have vC:=hlt hI.o;have fC:=ae (fun g cap w5 (hp:eW gJ 2 51 w.heap.size X w5 (.slice (some ⟨va,0,none⟩) pre.length fD) (pre.map (fun e=>(e.k,e.v))) (x.k,x.v) g pre.length cap)=>hI.step hp);have o1:X.cell? ⟨w1.heap.size,0,none⟩=some (.slice (some ⟨va,0,none⟩) pre.length fD):=by rw[ah hI.o];rfl
  have fN:=ae hI.row
  have gA:=ae (show ∀ (a:Act) (w6:World) (g c:Nat),(∃ G' H1,PaR w.heap.size w1.heap.size (pre.map (fun e=>(e.k,e.v))++[(x.k,x.v)]) G' H1 w6 (.slice (some ⟨g,0,none⟩) (pre.length+1) c)∧(∀ b,G' b→G b∨X.heap.size≤b)∧(∀ b,H1 b→H' b∨X.heap.size≤b)∧KP (fun b=>¬H' b) X w6)→rA (fun pre G H X=>∃ g c,PaR w.heap.size w1.heap.size (pre.map (fun e=>(e.k,e.v))) G H X (.slice (some ⟨g,0,none⟩) pre.length c)) (pre++[x]) G H' X .normal a w6 from fun a w6 g c h=>by
   show ∃ G' H1,(∃ g c,PaR w.heap.size w1.heap.size ((pre++[x]).map (fun e=>(e.k,e.v))) G' H1 w6 (.slice (some ⟨g,0,none⟩) (pre++[x]).length c))∧(∀ b,G' b→G b∨X.heap.size≤b)∧(∀ b,H1 b→H' b∨X.heap.size≤b)∧KP (fun b=>¬H' b) X w6
   rw[aZ,aM];obtain⟨G',H1,a1,a2,a3,a4⟩:=h
   exact⟨G',H1,⟨g,c,a1⟩,a2,a3,a4⟩)
  have hpl:pre.length=(pre.map (fun e=>(e.k,e.v))).length:=(aU _).symm;have vV:=ae hpl;obtain⟨pn,hpn⟩:∃ pn,pre.length=pn:=⟨_,rfl⟩;rw[hpn] at fC o1 fN vV gA;have hm1:pn+1≤maxLen:=by unfold maxLen;omega
  have hm2:(pn+1)*32≤140737488355328:=by omega
  have uJ:w.heap.size≤X.heap.size:=by omega
  clear hI hx hlx hpl hpn
  gi_wp2_with (gi_at_builtin;refine su rfl _ _ 33 rfl gJ 2 51 w.heap.size i9 _ 32 Tryz.underlying33 hi9 iV iA im rfl qd (.slice (some ⟨va,0,none⟩) pn fD) pn _ (x.k,x.v) rfl fN.out vV.out 51 rfl 1 rfl hm1 hm2 uJ ?_;intro g cap w5 hp;obtain⟨⟨u5,o5⟩,f5,hfin⟩:=fC.out g cap w5 hp;have HF:=ae hfin;clear hp hfin o1)
  exact gA.out ⟨#[],[]⟩ _ _ _ HF.out
 case done=>
  rintro Dd G H' X YH ⟨g,cap,hI⟩ Oe hk hd;have Tt:=hlt hd;have hml:(D.all.map (fun e=>(e.k,e.v))).length=D.all.length:=aU _;have hrow:=hI.row;rw[←hml] at hrow;have hgl:=(hrow.lt g rfl).2;have hg0:w.heap.size≤g:=(hrow.lt g rfl).1;have hgo:g≠w1.heap.size:=fun e=>hrow.bw hI.o (by decide) (by rw[←e];rfl)
  have hgd:g≠Dd:=fun e=>oU hrow hd (by rw[←e];rfl)
  have o1:X.cell? ⟨w1.heap.size,0,none⟩=some (.slice (some ⟨g,0,none⟩) D.all.length cap):=by rw[ah hI.o];rfl
  have DZ:=ae (Ep w.heap.size g cap _ X hrow (by rw[hml,←H.out.wf.n,H.out.n,←HM.out];omega) hgl);rw[hml] at DZ;have ZH:=ae hI.o;have HD:=ae hd;have HK:=ae hk;generalize D.all.length=dn at *
  clear hI hrow hk hd Oe
  gi_wp2_with (refine⟨trivial,?_⟩;gi_at_call 340;refine(fw.2 DZ.out).mono ?_;rintro e w5 ⟨rfl,ys,hy1,hy2,hy3,hy4⟩;have o5:w5.cell? ⟨w1.heap.size,0,none⟩=some (.slice (some ⟨g,0,none⟩) dn cap):=(ez (a:=⟨w1.heap.size,0,none⟩) (hy4.block _ (hlt ZH.out) (by simp;exact fun e=>hgo e.symm))).trans o1;have xt:=ae hy1;have Tx:=ae hy2;have Mu:=ae hy3;have Vp:=ae hy4;clear hy1 hy2 hy3 hy4 o1)
  have hd5:w5.heap[Dd]?=some (.deferred (some [])):=Vp.out.get HD.out (by simp;exact fun e=>hgd e.symm);refine⟨by simp,.inl ⟨_,_,rfl,ky hd5,?_⟩⟩;refine⟨_,results_tmp rfl _ _ _,_,ys,rfl,?_,?_,?_,?_⟩
  ·exact Mu.out.bY (fun b hb=>dL (fun e=>hgd (by simp[Value.ownBlock] at hb;omega)))
  ·exact JU (xt.out.trans H.out.all) hnd Tx.out
  ·exact fun x=>(xt.out.trans H.out.all).mem_iff
  ·have k1:KP (fun b=>b<w.heap.size) W2 X:=HK.out.mono (fun b _ hb hc=>by rcases hc with rfl|rfl<;>omega);have k2:KP (fun b=>b<w.heap.size) X w5:=KP.il Vp.out (fun b _ hb hm=>by simp at hm;omega);have k3:=((((KP.il ZF.out (G:=fun b=>b<w.heap.size) (fun _ _ _=>by simp)).trans (KP.il ME.out (fun _ _ _=>by simp))).trans k1).trans k2).putObj (l:=Dd) (fun hc=>by omega) (.deferred none);exact k3.keeps (fun b hb _=>hb)
end jw
namespace ks.ed
def dty:DTy Unit:=⟨231,229,224,fun v=>[]⟩
theorem wX (seed:Nat) (k:ByteArray) (db tb n:Nat) (w:World) (h1:seed<18446744073709551616) (hk:k.size≤maxLen) (hc:w.cell? ⟨db,0,none⟩=some (.int .u64 seed)) (h0:0<n) (hn:n≤4611686018427387904):
  Calls Tryz.prog 171 #[dp db,.slice (some ⟨tb,0,none⟩) n n,.string k] w fun e w'=>e=.returned (.pointer (some ⟨tb,dQ seed n k,none⟩))∧w=w':=by
 have hs:=yp (hash seed k) n (BI seed k) h0 hn;obtain⟨i,hi⟩:∃ i,i=dQ seed n k:=⟨_,rfl⟩;have hlt:i<n:=by rw[hi];exact tz h0 k
 rw[show hash seed k &&& (n-1)=i from hi.symm] at hs;rw[←hi];clear hi;unfold dp;go_enter Tryz.func171,Tryz.ntmps171
 go_wp2_with (go_at_call 207;refine(Lu seed k _ h1 hk).mono ?_;rintro e w' ⟨rfl,rfl⟩)
 go_ret;exact⟨rfl,rfl⟩
theorem sE (seed:Nat) (k:ByteArray) (db tb:Nat) (t:Tab Unit) (w:World) (h1:seed<18446744073709551616) (hk:k.size≤maxLen) (hc:w.cell? ⟨db,0,none⟩=some (.int .u64 seed)) (ht:TabIs dty w tb t) (hn:t.length≤4611686018427387904):
  Calls Tryz.prog 170 #[dp db,fJ tb t,.string k] w fun e w'=>e=.returned (.pointer (fj dty seed tb t k))∧w=w':=by
 by_cases hne:t=[]
 ·subst hne;rw[show fJ tb ([]:Tab Unit)=.slice none 0 0 from rfl,show fj dty seed tb [] k=none from rfl];clear hc ht hn;unfold dp;go_enter Tryz.func170,Tryz.ntmps170
  go_wp2
  go_ret;exact⟨rfl,rfl⟩
 ·have hp:0<t.length:=bZ.2 hne;obtain⟨l,hl⟩:=pB hne seed k;obtain⟨n,hnn⟩:∃ n,n=t.length:=⟨_,rfl⟩;have hla:fj dty seed tb t k=eU dty k l ⟨tb,dQ seed n k,none⟩:=by unfold fj;rw[hl,hnn];rfl
  have hcl:=ht.cell hl;have hch:=ht.ch l (aB hl);rw[←hnn] at hp hn hcl;have qj:fJ tb t=.slice (some ⟨tb,0,none⟩) n n:=by unfold fJ;rw[aJ hne,hnn]
  rw[hla,qj];obtain⟨a,ha⟩:∃ a,a=(⟨tb,dQ seed n k,none⟩:Addr):=⟨_,rfl⟩;rw[←ha] at hcl ⊢;obtain⟨R,hR⟩:∃ R,R=eU dty k l a:=⟨_,rfl⟩;rw[←hR];have HRR:=ae hR;clear hR;have HA:=ae ha;have zB:=ae hch;have Pa:=ae hcl;have HC:=ae hc;clear hla qj hnn hl ha ht hne hch hcl;unfold dp;go_enter Tryz.func170,Tryz.ntmps170
  go_wp2_with (go_at_call 171;refine(wX seed k db tb n _ h1 hk HC.out hp hn).mono ?_;rintro e w' ⟨rfl,rfl⟩)
  go_loopg [7] l.length (fun g p wr=>wr=w∧∃ (m:List (DE Unit)) (b:Addr),p=.pointer (some b)∧Hid (m.length=g∧e9 dty w m∧w.cell? b=some (ptr m)∧R=eU dty k m b))
  case atStart=>exact⟨rfl,l,a,by rw[HA.out],ae ⟨rfl,zB.out,Pa.out,HRR.out⟩⟩
  case round=>
   obtain⟨rfl,m,b,rfl,hm⟩:=hrel;obtain⟨h1,h2,h3,h4⟩:=hm.out;clear hm
   cases m with
   | nil=>
    unfold ptr at h3;have H1:=ae h1;have H4:=ae h4;clear h1 h2 h4 hc;go_wp2
    go_ret;exact⟨by rw[H4.out];rfl,rfl⟩
   | cons e r=>
    have hkc:=qs h2.1;unfold ptr at h3;have H1:=ae h1;have H2:=ae h2;have H4:=ae h4;clear h1 h2 h4 hc
    by_cases hek:e.k=k
    ·have hcmp:=ux hek;go_wp2
     go_ret;refine⟨?_,rfl⟩;rw[H4.out];unfold eU;rw[aQ hek];rfl
    ·have hcmp:=iB hek;go_wp2
     go_roundg r.length
     case measure=>have:=H1.out;simp at this;omega
     case rel=>
      refine⟨rfl,r,⟨e.b,1,none⟩,rfl,ae ⟨rfl,H2.out.2,jM H2.out.1,?_⟩⟩;rw[H4.out]
      show eU dty k (e::r) b=eU dty k r (wF dty e)
      conv=>lhs;unfold eU
      rw[aJ hek]
theorem qq (db yb:Nat) (w:World) (hc:w.cell? ⟨db,2,none⟩=some (.slice none 0 0)):
  Calls Tryz.prog 138 #[dp db] w fun e w'=>e=.returned (.bool false)∧w=w':=by
 unfold dp;go_enter Tryz.func138,Tryz.ntmps138
 go_wp2
 go_ret;exact⟨rfl,rfl⟩
theorem oJ (db yb n:Nat) (w:World) (h0:0<n) (hc:w.cell? ⟨db,2,none⟩=some (.slice (some ⟨yb,0,none⟩) n n)):
  Calls Tryz.prog 138 #[dp db] w fun e w'=>e=.returned (.bool true)∧w=w':=by
 unfold dp;go_enter Tryz.func138,Tryz.ntmps138
 go_wp2
 go_ret;exact⟨yw (by simp),rfl⟩
def mv (D:DM Unit):Bool:=!D.aW.isEmpty
theorem iC (db:Nat) (D:DM Unit) (w:World) (h:bu dty w db D):
  Calls Tryz.prog 138 #[dp db] w fun e w'=>e=.returned (.bool (mv D))∧w=w':=by
 have h2:=h.c2
 by_cases hy:D.aW=[]
 ·rw[show mv D=false by unfold mv;rw[hy];rfl];rw[hy] at h2;exact qq db 0 w h2
 ·rw[show mv D=true by unfold mv;cases hd:D.aW with|nil=>exact absurd hd hy|cons=>rfl];rw[eQ hy] at h2;exact oJ db D.yb D.aW.length w (bZ.2 hy) h2
theorem xj (db:Nat) (D:DM Unit) (k:ByteArray) (w:World) (h:bu dty w db D) (hk:k.size≤maxLen):
  Calls Tryz.prog 137 #[dp db,.string k] w fun e w'=>e=.returned (.pointer (D.ln dty k))∧w=w':=by
 have c0:=h.c0;have c1:=h.c1;have c2:=h.c2;have H:=ae h;have MI:=ae c0;have vC:=h.bo;have hby:=h.by_;clear h c0;obtain⟨p,hp⟩:∃ p,p=fj dty D.seed D.ob D.old k:=⟨_,rfl⟩;unfold dp DM.ln;rw[←hp]
 cases p with
 | some a=>
  have HP:=ae hp;clear hp;rw[show(some a).or (fj dty D.seed D.yb D.aW k)=some a from rfl];go_enter Tryz.func137,Tryz.ntmps137
  go_wp2_with fail
  refine(sE D.seed k db D.ob D.old _ H.out.sd hk MI.out H.out.ho (by omega)).mono ?_;rintro e w' ⟨rfl,rfl⟩;rw[←HP.out];go_wp2
  go_ret;exact⟨rfl,rfl⟩
 | none=>
  have HP:=ae hp;clear hp;rw[show(none:Option Addr).or (fj dty D.seed D.yb D.aW k)=fj dty D.seed D.yb D.aW k from rfl];go_enter Tryz.func137,Tryz.ntmps137
  go_wp2_with fail
  refine(sE D.seed k db D.ob D.old _ H.out.sd hk MI.out H.out.ho (by omega)).mono ?_;rintro e w' ⟨rfl,rfl⟩;rw[←HP.out];go_wp2_with fail
  refine(sE D.seed k db D.yb D.aW _ H.out.sd hk MI.out H.out.hy (by omega)).mono ?_;rintro e w' ⟨rfl,rfl⟩;go_wp2
  go_ret;exact⟨rfl,rfl⟩
theorem xg (seed db tb:Nat) (t:Tab Unit) (e:DE Unit) (nx:Value) (w:World) (h1:seed<18446744073709551616) (hk:e.k.size≤maxLen) (hc:w.cell? ⟨db,0,none⟩=some (.int .u64 seed))
  (ht:TabIs dty w tb t) (hne:t≠[]) (hn:t.length≤4611686018427387904) (he:w.heap[e.b]?=some (gG dty e nx)) (hnd:(e.b::cg tb t).Nodup):
  Calls Tryz.prog 139 #[dp db,fJ tb t,dp e.b] w fun r w'=>r=.returned (.tuple #[])∧TabIs dty w' tb (gZ seed t e)∧af [e.b,tb] w w':=by
 obtain⟨l,hl⟩:=pB hne seed e.k;have hp:0<t.length:=bZ.2 hne;have hcl:=ht.cell hl;have hfr:=ht.free hne (dQ seed t.length e.k);have hfe:=As he 1;have hkc:=qs he;have hnc:w.cell? ⟨e.b,1,none⟩=some nx:=jM he;have hlast:=ht.gZ hne seed hl he hnd
 have hkeep:af [e.b,tb] w ((w.setCell ⟨e.b,1,none⟩ (ptr l)).setCell ⟨tb,dQ seed t.length e.k,none⟩ (ptr (e::l))):=((af.refl _ w).setCell (p:=⟨e.b,1,none⟩) (.inl (by simp)) _).setCell (p:=⟨tb,_,none⟩) (.inl (by simp)) _
 have hbt:e.b≠tb:=by rw[bT] at hnd;exact fun e2=>hnd.1 (e2 ▸ gQ hne)
 rw[eQ hne];generalize hnn:t.length=n at hp hn hcl hfr hlast hkeep ⊢
 obtain⟨i,hi⟩:∃ i,i=dQ seed n e.k:=⟨_,rfl⟩;rw[←hi] at hcl hfr hlast hkeep;have HC:=ae hc;have HI:=ae hi;obtain⟨x,hx⟩:=sw l;rw[hx] at hcl hlast hkeep;have HL:=ae hlast;have HK:=ae hkeep;clear hl ht hne he hnd hlast hkeep hc hnn hi hx;unfold dp;go_enter Tryz.func139,Tryz.ntmps139
 go_wp2_with (go_at_call 171;refine(wX seed e.k db tb n _ h1 hk HC.out hp hn).mono ?_;rintro r w' ⟨rfl,rfl⟩;rw[←HI.out])
 go_end0
 exact⟨rfl,HL.out,HK.out⟩
end ks.ed
end Go.Proofs.YthpdlidbaojlbaaGreatDoor
