/- A dict of floats: find, hang, moving, Len, New. -/
import Derived.Test.YthpdlidbaojlbaaGreatDoorQ33
set_option linter.unusedVariables false
set_option linter.unusedSimpArgs false
set_option maxHeartbeats 4000000
open Go.ChangeShapes Go.WideShapes Go.RowKit
namespace Go.Proofs.YthpdlidbaojlbaaGreatDoor
namespace jw
open ks (af ae hlt ah bC alloc_old aG aX aT dp)
theorem vA:(Tryz.prog.info? 54).map (fun i=>(i.zero,i.size,i.bytes))=some (some (.agg #[.string ⟨#[]⟩,.float .f64 0]),2,24):=by kernel_rfl
structure Ms (B:Nat) (w w':World) (v v':Value) (l':List (ByteArray×Nat)):Prop where
 own:bF dN 2 54 B w' v' l'
 bY:af v.ownBlock.toList w w'
 at_:∀ g,v'.ownBlock=some g→v.ownBlock=some g∨w.heap.size≤g
theorem GO {w:World} {vb:Nat} {y:ByteArray×Nat} (h:w.heap[vb]?=some (.cells #[.string y.1,.float .f64 y.2] 54 (0,0))):eh dN 2 w (.slice (some ⟨vb,0,none⟩) 1 1) [y]:=by
 refine⟨some ⟨vb,0,none⟩,1,rfl,aq _,by simp[maxLen],(fun e=>by cases e),fun _=>⟨vb,0,rfl,?_⟩⟩;intro i x hx j u hu;have hi:i=0:=by have:=(au.1 hx).1;simp at this;exact this
 subst hi;simp at hx;subst hx;rw[ah h];have hj:=(au.1 hu).1;simp[dN] at hj
 rcases j with _|_|j
 ·simpa[dN] using hu
 ·simpa[dN] using hu
 ·omega
theorem Rz (B:Nat) (v:Value) (l:List (ByteArray×Nat)) (vb:Nat) (y:ByteArray×Nat) (w:World) (h:bF dN 2 54 B w v l) (hB:B≤w.heap.size) (hn:l.length≤1048576) (hvb:w.heap[vb]?=some (.cells #[.string y.1,.float .f64 y.2] 54 (0,0))):
  Calls Tryz.prog 108 #[v,.int .i64 (l.length:Int),.slice (some ⟨vb,0,none⟩) 1 1] w fun r w'=>∃ v',r=.returned v'∧Ms B w w' v v' (l++[y]):=by
 obtain⟨i9,hi9,iV,iA,im⟩:=cF vA;obtain⟨a,cap,rfl,hc1,hc2,hc3,ha⟩:=h.form;have H:=ae h;have HN:=ae hn;have HB:=ae hB;have HR:=ae (GO hvb);have hcap:cap≤9223372036854775807:=by unfold maxLen at hc2;omega
 generalize hnn:l.length=n at *
 have xW:=ae hnn;have ZX:=ae hc3;clear h hB ha hnn hc2 hc3 hvb;go_enter Tryz.func108,Tryz.ntmps108
 by_cases hcn:cap=n
 ·subst hcn;go_wp2_with (at_builtin;refine iP rfl _ _ 34 rfl dN 2 54 B i9 (.agg #[.string ⟨#[]⟩,.float .f64 0]) 24 Tryz.underlying34 hi9 iV iA im rfl mF (.slice a cap cap) l [y] _ rfl H.out rfl HR.out (by have:=HN.out;rw[xW.out];unfold maxLen;simp;omega) (by have:=HN.out;rw[xW.out];simp;omega) HB.out ?_;intro v' w2 hp;have HP:=ae hp;clear hp)
  obtain⟨a',c',rfl,_⟩:=HP.out.own.form;go_ret;exact⟨_,rfl,HP.out.own,HP.out.bY,HP.out.at_⟩
 ·obtain⟨A,rfl⟩:∃ A,a=some A:=by
   cases a with
   | none=>have:=ZX.out rfl;omega
   | some A=>exact⟨A,rfl⟩
  go_wp2_with (at_builtin;refine iP rfl _ _ 34 rfl dN 2 54 B i9 (.agg #[.string ⟨#[]⟩,.float .f64 0]) 24 Tryz.underlying34 hi9 iV iA im rfl mF (.slice (some A) n cap) l [y] _ rfl H.out rfl HR.out (by have:=HN.out;rw[xW.out];unfold maxLen;simp;omega) (by have:=HN.out;rw[xW.out];simp;omega) HB.out ?_;intro v' w2 hp;have HP:=ae hp;clear hp)
  obtain⟨a',c',rfl,_⟩:=HP.out.own.form;go_ret;exact⟨_,rfl,HP.out.own,HP.out.bY,HP.out.at_⟩
theorem Dz (l:List (ByteArray×Nat)):∀ u∈l.flatMap dN,u.oneCell'=true:=by intro u hu;obtain⟨x,_,hx⟩:=mJ.1 hu;exact mF.one x u hx
theorem CV {l:List (ByteArray×Nat)} {cur:List Value} {i:Nat} (hi:i≤l.length) (h:cur.take (l.length*2)=l.flatMap dN):
  ((l.take i).flatMap dN).length=i*2∧((l.drop i).flatMap dN).length=(l.length-i)*2∧cur.take (((l.take i).flatMap dN).length+((l.drop i).flatMap dN).length)=(l.take i).flatMap dN++(l.drop i).flatMap dN:=by
 have e1:((l.take i).flatMap dN).length=i*2:=by rw[iF nI,aR,dB hi]
 have e2:((l.drop i).flatMap dN).length=(l.length-i)*2:=by rw[iF nI,br]
 refine⟨e1,e2,?_⟩;rw[e1,e2,←gk,eH,←h]
 congr 1
 omega
theorem DA (l:List (ByteArray×Nat)) (i:Nat) (y:ByteArray×Nat):(l.take i++y::l.drop i).flatMap dN=(l.take i).flatMap dN++dN y++(l.drop i).flatMap dN:=by rw[gk,di,aD]
theorem Kj (w:World) (g vb o lb cb:Nat) (y:ByteArray×Nat) (cur:Array Value) (hvb:w.heap[vb]?=some (.cells #[.string y.1,.float .f64 y.2] 54 (0,0))) (hg:w.heap[g]?=some (.cells cur 54 (0,0))) (hne:vb≠g) (hc:0<cur.size):
  (callFunc 145 #[.slice (some ⟨vb,0,none⟩) 1 1,.slice (some ⟨g,o,none⟩) lb cb]).run Tryz.prog w=.ok (.value (.bool false)) w:=by
 rw[run_callFunc_extern Tryz.func145 (by kernel_rfl) (by kernel_rfl) (by kernel_rfl) (e:=Extern.SlicesOverlaps.overlaps #[34,34] #[4]) (by kernel_rfl)];obtain⟨i9,hi9,iV,iA,im⟩:=cF vA;rw[Lib.run_overlaps_apart w 34 4 54 Tryz.underlying34 2 (fun W=>by simp[Go.sizeOf,typeInfo,hi9,iA]) ⟨vb,0,none⟩ ⟨g,o,none⟩ 1 1 lb cb hne 54 54 2 cur.size (by simp[World.shape?,hvb]) (by simp[World.shape?,hg]) (by omega) (bC hvb 0) (bC hvb 2)];rfl
set_option maxRecDepth 100000 in
theorem KX (B g n cap i vb:Nat) (l:List (ByteArray×Nat)) (y:ByteArray×Nat) (w:World) (h:bF dN 2 54 B w (.slice (some ⟨g,0,none⟩) n cap) l) (hn:n≤1048576) (hi:i<n) (hroom:n+1≤cap)
  (hvb:w.heap[vb]?=some (.cells #[.string y.1,.float .f64 y.2] 54 (0,0))) (hne:vb≠g):
  Calls Tryz.prog 108 #[.slice (some ⟨g,0,none⟩) n cap,.int .i64 (i:Int),.slice (some ⟨vb,0,none⟩) 1 1] w fun r w'=>r=.returned (.slice (some ⟨g,0,none⟩) (n+1) cap)∧Ms B w w' (.slice (some ⟨g,0,none⟩) n cap) (.slice (some ⟨g,0,none⟩) (n+1) cap) (l.take i++y::l.drop i):=by
 obtain⟨cur,hg,hln,hlc,hcm,hcs,htk,hBg⟩:=h.block;subst hln;obtain⟨eA,eC,MP⟩:=CV (bW hi) htk;have h2:=(cF vA);obtain⟨i9,hi9,iV,iA,im⟩:=h2;have hsz:(Tryz.prog.info? 54).map (·.size)=some 2:=by rw[hi9];simp[iA]
 obtain⟨A,hA⟩:∃ A,A=(l.take i).flatMap dN:=⟨_,rfl⟩;obtain⟨C,hC⟩:∃ C,C=(l.drop i).flatMap dN:=⟨_,rfl⟩;rw[←hA] at eA MP;rw[←hC] at eC MP;have hcl:cur.toList.length=cap*2:=by simpa using hcs
 have hmid:=Ir cur.toList A C (dN y) 2 MP rfl (by rw[eA,eC,hcl];omega);obtain⟨jv,yU⟩:∃ c:Array Value,c=(cur.toList.take (A.length+2)++C++cur.toList.drop (A.length+2+C.length)).toArray:=⟨_,rfl⟩;obtain⟨qe,yT⟩:∃ c:Array Value,c=(jv.toList.take A.length++dN y++jv.toList.drop (A.length+(dN y).length)).toArray:=⟨_,rfl⟩;have hl1:jv.toList=cur.toList.take (A.length+2)++C++cur.toList.drop (A.length+2+C.length):=by rw[yU]
 have hl2:qe.toList=jv.toList.take A.length++dN y++jv.toList.drop (A.length+(dN y).length):=by rw[yT]
 simp only[←hl1,←hl2] at hmid;obtain⟨m1,m2,m3⟩:=hmid;have hcs1:jv.size=cap*2:=by simpa using m1.trans hcl
 have hcs2:qe.size=cap*2:=by simpa using m2.trans hcl
 have hcp1:∀ (W:World),W.heap[g]?=some (.cells cur 54 (0,0))→∀ ty dc sc,(Builtin.copy_ #[34,34] ty #[.slice (some ⟨g,(i+1)*2,none⟩) (l.length+1-(i+1)) dc,.slice (some ⟨g,i*2,none⟩) (l.length+1-i) sc]).run Tryz.prog W=.ok (goInt (Nat.min (l.length+1-i) (l.length+1-(i+1)))) (W.setRow g jv):=fun W hW ty dc sc=>by
  have:=mM (P:=Tryz.prog) W 34 34 ty 54 g ((i+1)*2) (l.length+1-(i+1)) dc ⟨g,i*2,none⟩ (l.length+1-i) sc cur 54 C 2 Tryz.underlying34 hsz hW
   (by rw[eC];simp only[Nat.min_def];split<;>omega)
   (fun j u hj=>by
    have hjl:=(au.1 hj).1;rw[iO,ah hW,←ff];have e1:(cur.toList.take (A.length+C.length))[A.length+j]?=some u:=by rw[MP,bN (by omega)];rw[dC];exact hj
    rw[dP,aQ (by omega),eA] at e1
    exact e1)
   (by rw[eC,hcs];omega) (by rw[hC];exact Dz _)
  rw[yU,eA];rw[show i*2+2=(i+1)*2 by omega];exact this
 have hcp2:∀ (W:World),W.heap[g]?=some (.cells jv 54 (0,0))→W.heap[vb]?=some (.cells #[.string y.1,.float .f64 y.2] 54 (0,0))→∀ ty dc,(Builtin.copy_ #[34,34] ty #[.slice (some ⟨g,i*2,none⟩) (l.length+1-i) dc,.slice (some ⟨vb,0,none⟩) 1 1]).run Tryz.prog W=.ok (goInt (Nat.min 1 (l.length+1-i))) (W.setRow g qe):=fun W hW hV ty dc=>by
  have hx:=GO hV
  have:=mM (P:=Tryz.prog) W 34 34 ty 54 g (i*2) (l.length+1-i) dc ⟨vb,0,none⟩ 1 1 jv 54 (dN y) 2 Tryz.underlying34 hsz hW
   (by rw[nI];simp only[Nat.min_def];split<;>omega)
   (fun j u hj=>by
    have hjl:=(au.1 hj).1;rw[iO,ah hV,bD];rw[nI] at hjl
    rcases j with _|_|j
    ·simpa[dN] using hj
    ·simpa[dN] using hj
    ·omega)
   (by rw[nI,hcs1];omega) (mF.one y)
  rw[yT,eA];exact this
 have hown:∀ W:World,W.heap[g]?=some (.cells qe 54 (0,0))→bF dN 2 54 B W (.slice (some ⟨g,0,none⟩) (l.length+1) cap) (l.take i++y::l.drop i):=fun W hW=>by
  have hlen:(l.take i++y::l.drop i).length=l.length+1:=by simp;omega
  have:=bF.vo (enc:=dN) (l:=l.take i++y::l.drop i) (cap:=cap) nI hW (by omega) hcm hcs2 (by
   rw[DA,←hA,←hC,←m3,hlen,eA,eC]
   congr 1;omega) hBg
  rwa [hlen] at this
 have HOWN:=ae hown;have HHG:=ae hg;have HVB:=ae hvb;have hov:=fun lb cb=>Kj w g vb ((i+1)*2) lb cb y cur hvb hg hne (by omega)
 have hg1:∀ W:World,W.heap[g]?=some (.cells cur 54 (0,0))→(W.setRow g jv).heap[g]?=some (.cells jv 54 (0,0)):=fun W hW=>mZ W g cur jv _ _ hW
 have hg2:∀ W:World,W.heap[g]?=some (.cells jv 54 (0,0))→(W.setRow g qe).heap[g]?=some (.cells qe 54 (0,0)):=fun W hW=>mZ W g jv qe _ _ hW
 have hv1:∀ (W:World) (c:Array Value),W.heap[vb]?=some (.cells #[.string y.1,.float .f64 y.2] 54 (0,0))→(W.setRow g c).heap[vb]?=some (.cells #[.string y.1,.float .f64 y.2] 54 (0,0)):=fun W c hW=>(jq W g _ _ hne).trans hW
 have MV:=ae hg1;have HG2:=ae hg2;have HV1:=ae hv1;obtain⟨W1,hW1⟩:∃ W1,W1=w.drew.setRow g jv:=⟨_,rfl⟩;have R9:W1.heap[g]?=some (.cells jv 54 (0,0)):=by rw[hW1];exact hg1 w.drew hg
 have UX:W1.heap[vb]?=some (.cells #[.string y.1,.float .f64 y.2] 54 (0,0)):=by rw[hW1];exact hv1 w.drew jv hvb
 have MH:∀ ty dc sc,_:=hcp1 w.drew hg;rw[←hW1] at MH;have FI:∀ ty dc,_:=hcp2 W1 R9 UX;have HW1:=ae hW1;have Zi:=ae R9;obtain⟨n,hn'⟩:∃ n,l.length=n:=⟨_,rfl⟩;rw[hn'] at HOWN MH FI hi hroom hn hlc ⊢;have hcap:cap≤9223372036854775807:=by unfold maxLen at hcm;omega
 have hz1:¬((i:Int)=(n:Int)):=by omega
 have hz2:¬((cap:Int)<(n:Int)+1):=by omega
 have hz3:(n:Int)+1≤(cap:Int):=by omega
 have hin:i≤n:=by omega
 have hw1:IntKind.i64.wrap ((i:Int)+1)=(i:Int)+1:=by rw[cH];omega
 have hb1:(0:Int)≤(i:Int)+1:=by omega
 have htn:((i:Int)+1).toNat=i+1:=by omega
 have hb2:¬(cap=i+1):=by omega
 have hb3:(i:Int)≤(n:Int)+1:=by omega
 have hb4:¬(cap=i):=by omega
 clear h hg hvb hcs hcl hcs1 hcs2 htk hcp1 hcp2 hown m1 m2 m3 hl1 hl2 yU yT hA hC eA eC MP hg1 hg2 hv1 hW1 R9 UX hn' hcm hlc;go_enter Tryz.func108,Tryz.ntmps108
 go_wp2_with (simp only[hov])
 go_region_law (refine wW rfl _ _ 34 34 rfl (.slice (some ⟨g,(i+1)*2,none⟩) (n+1-(i+1)) (cap-(i+1))) (.slice (some ⟨g,i*2,none⟩) (n+1-i) (cap-i)) (by simp[Act.eval,Act.put]) (by simp[Act.eval,Act.put]) (MH _ _ _) ?_)
 go_wp2_with (at_builtin;refine zC rfl _ _ 34 34 rfl _ _ rfl rfl (FI _ _) ?_)
 go_ret;refine⟨rfl,HOWN.out _ (HG2.out W1 Zi.out),?_,fun k hk=>.inl hk⟩;have k1:af [g] w W1:=by rw[HW1.out];exact⟨rfl,rfl,rfl,by rw[show(w.drew.setRow g jv).heap.size=w.drew.heap.size by simp];exact aq _,fun b hb hm=>jq w.drew _ _ _ (by simpa using hm)⟩
 have k2:af [g] W1 (W1.setRow g qe):=⟨rfl,rfl,rfl,by simp,fun b hb hm=>jq W1 _ _ _ (by simpa using hm)⟩;exact(k1.trans k2).mono (by simp[Value.ownBlock])
theorem G8 (k:Nat):(Builtin.zeroCells (Value.agg #[.string ⟨#[]⟩,.float .f64 0]).cells k).size=k*2:=by simp[Builtin.zeroCells,Value.cells]
set_option maxRecDepth 100000 in
theorem NX (B g n i vb:Nat) (l:List (ByteArray×Nat)) (y:ByteArray×Nat) (w:World) (h:bF dN 2 54 B w (.slice (some ⟨g,0,none⟩) n n) l) (hB:B≤w.heap.size) (hn:n≤1048576) (hi:i<n)
  (hvb:w.heap[vb]?=some (.cells #[.string y.1,.float .f64 y.2] 54 (0,0))):
  Calls Tryz.prog 108 #[.slice (some ⟨g,0,none⟩) n n,.int .i64 (i:Int),.slice (some ⟨vb,0,none⟩) 1 1] w fun r w'=>∃ v',r=.returned v'∧Ms B w w' (.slice (some ⟨g,0,none⟩) n n) v' (l.take i++y::l.drop i):=by
 obtain⟨cur,hg,hln,hlc,hcm,hcs,htk,hBg⟩:=h.block;subst hln;obtain⟨eA,eC,MP⟩:=CV (bW hi) htk;obtain⟨i9,hi9,iV,iA,im⟩:=(cF vA);have hsz:(Tryz.prog.info? 54).map (·.size)=some 2:=by rw[hi9];simp[iA]
 obtain⟨A,hA⟩:∃ A,A=(l.take i).flatMap dN:=⟨_,rfl⟩;obtain⟨C,hC⟩:∃ C,C=(l.drop i).flatMap dN:=⟨_,rfl⟩;rw[←hA] at eA MP;rw[←hC] at eC MP;have hgl:=hlt hg;have hvl:=hlt hvb
 have hat:∀ j u,(A++C)[j]?=some u→cur[j]?=some u:=fun j u hj=>by
  rw[←MP,dP] at hj
  split at hj
  ·rw[←ff];exact hj
  ·cases hj
 have hold:(Builtin.firstCells i9.size i (.slice (some ⟨g,0,none⟩) i l.length)).run Tryz.prog w.drew=.ok A.toArray w.drew:=by
  rw[iA]
  exact run_firstCells_some w.drew 2 i ⟨g,0,none⟩ i l.length A (by rw[eA]) (fun j v hj=>by
   rw[iO,bD]
   show w.cell? _=_
   rw[ah hg]
   exact hat j v (by rw[b8 (au.1 hj).1];exact hj))
 obtain⟨G,hG⟩:∃ G,G=grownCap w (l.length+1) l.length 54:=⟨_,rfl⟩;have hGn:l.length+1≤G:=by rw[hG];exact sN w _ _ _
 have YF:G≤maxLen:=by rw[hG];exact grownCap_le_maxLen w _ _ _ (by unfold maxLen;omega)
 obtain⟨ROW,hROW⟩:∃ ROW:Array Value,ROW=A.toArray++Builtin.zeroCells (Value.agg #[.string ⟨#[]⟩,.float .f64 0]).cells (l.length+1-i)++Builtin.zeroCells (Value.agg #[.string ⟨#[]⟩,.float .f64 0]).cells (G-(l.length+1)):=⟨_,rfl⟩;have hkk:(l.length:Int)+1-(i:Int)=((l.length+1-i:Nat):Int):=by omega
 have hik:i+(l.length+1-i)=l.length+1:=by omega
 have hrz:∀ ty,(Builtin.append_ #[34,3] ty #[.slice (some ⟨g,0,none⟩) i l.length,.int .i64 ((l.length:Int)+1-(i:Int))]).run Tryz.prog w=
   .ok (.slice (some ⟨w.heap.size,0,none⟩) (l.length+1) G) (w.drew.alloc (.cells ROW 54)):=fun ty=>by
  have h:=Lib.run_append_grow_zeros w 34 3 ty 54 i9 _ .i64 .i64 Tryz.underlying34 Tryz.underlying3 hi9 iV (some ⟨g,0,none⟩) i l.length A hold (l.length+1-i) (by omega) (by omega) (by omega) (by omega) (by rw[im];omega) (by rw[im,hik];exact sL (by omega) (by omega));rw[hik] at h;rw[hkk,hROW,hG];exact h
 have hRs:ROW.size=G*2:=by rw[hROW];simp only[Array.size_append,G8,cJ,eA];omega
 have hRl:ROW.toList.length=G*2:=by simpa using hRs
 have hRA:ROW.toList.take A.length=A:=by rw[hROW];simp[dh]
 have hmid:=NR ROW.toList A C (dN y) 2 hRA rfl (by rw[eA,eC,hRl];omega);obtain⟨jv,yU⟩:∃ c:Array Value,c=(ROW.toList.take A.length++dN y++ROW.toList.drop (A.length+(dN y).length)).toArray:=⟨_,rfl⟩;obtain⟨qe,yT⟩:∃ c:Array Value,c=(jv.toList.take (A.length+2)++C++jv.toList.drop (A.length+2+C.length)).toArray:=⟨_,rfl⟩;have hl1:jv.toList=ROW.toList.take A.length++dN y++ROW.toList.drop (A.length+(dN y).length):=by rw[yU]
 have hl2:qe.toList=jv.toList.take (A.length+2)++C++jv.toList.drop (A.length+2+C.length):=by rw[yT]
 simp only[←hl1,←hl2] at hmid;obtain⟨m1,m2,m3⟩:=hmid;have hcs1:jv.size=G*2:=by simpa using m1.trans hRl
 have hcs2:qe.size=G*2:=by simpa using m2.trans hRl
 have hcpA:∀ (W:World),W.heap[w.heap.size]?=some (.cells ROW 54 (0,0))→W.heap[vb]?=some (.cells #[.string y.1,.float .f64 y.2] 54 (0,0))→∀ ty dc,(Builtin.copy_ #[34,34] ty #[.slice (some ⟨w.heap.size,i*2,none⟩) (l.length+1-i) dc,.slice (some ⟨vb,0,none⟩) 1 1]).run Tryz.prog W=.ok (goInt (Nat.min 1 (l.length+1-i))) (W.setRow w.heap.size jv):=fun W hW hV ty dc=>by
  have:=mM (P:=Tryz.prog) W 34 34 ty 54 w.heap.size (i*2) (l.length+1-i) dc ⟨vb,0,none⟩ 1 1 ROW 54 (dN y) 2 Tryz.underlying34 hsz hW
   (by rw[nI];simp only[Nat.min_def];split<;>omega)
   (fun j u hj=>by
    have hjl:=(au.1 hj).1;rw[iO,ah hV,bD];rw[nI] at hjl
    rcases j with _|_|j
    ·simpa[dN] using hj
    ·simpa[dN] using hj
    ·omega)
   (by rw[nI,hRs];omega) (mF.one y)
  rw[yU,eA];exact this
 have hcpB:∀ (W:World),W.heap[w.heap.size]?=some (.cells jv 54 (0,0))→W.heap[g]?=some (.cells cur 54 (0,0))→∀ ty dc sc,(Builtin.copy_ #[34,34] ty #[.slice (some ⟨w.heap.size,(i+1)*2,none⟩) (l.length+1-(i+1)) dc,.slice (some ⟨g,i*2,none⟩) (l.length-i) sc]).run Tryz.prog W=.ok (goInt (Nat.min (l.length-i) (l.length+1-(i+1)))) (W.setRow w.heap.size qe):=fun W hW hV ty dc sc=>by
  have:=mM (P:=Tryz.prog) W 34 34 ty 54 w.heap.size ((i+1)*2) (l.length+1-(i+1)) dc ⟨g,i*2,none⟩ (l.length-i) sc jv 54 C 2 Tryz.underlying34 hsz hW
   (by rw[eC];simp only[Nat.min_def];split<;>omega)
   (fun j u hj=>by
    rw[iO,ah hV];refine hat _ u ?_;rw[bN (by omega),eA,dC]
    exact hj)
   (by rw[eC,hcs1];omega) (by rw[hC];exact Dz _)
  rw[yT,eA];rw[show i*2+2=(i+1)*2 by omega];exact this
 have hown:∀ W:World,W.heap[w.heap.size]?=some (.cells qe 54 (0,0))→bF dN 2 54 B W (.slice (some ⟨w.heap.size,0,none⟩) (l.length+1) G) (l.take i++y::l.drop i):=fun W hW=>by
  have hlen:(l.take i++y::l.drop i).length=l.length+1:=by simp;omega
  have:=bF.vo (enc:=dN) (l:=l.take i++y::l.drop i) (cap:=G) nI hW (by omega) YF hcs2 (by
   rw[DA,←hA,←hC,←m3,hlen,eA,eC]
   congr 1;omega) hB
  rwa [hlen] at this
 obtain⟨N,hN⟩:∃ N,w.heap.size=N:=⟨_,rfl⟩;have hw0:(w.drew.alloc (.cells ROW 54)).heap[N]?=some (.cells ROW 54 (0,0)):=by rw[←hN];exact aG w.drew _
 have hv0:(w.drew.alloc (.cells ROW 54)).heap[vb]?=some (.cells #[.string y.1,.float .f64 y.2] 54 (0,0)):=alloc_old _ (w:=w.drew) hvb;have hg0:(w.drew.alloc (.cells ROW 54)).heap[g]?=some (.cells cur 54 (0,0)):=alloc_old _ (w:=w.drew) hg;obtain⟨W1,hW1⟩:∃ W1,W1=w.drew.alloc (.cells ROW 54):=⟨_,rfl⟩;have hk1:af [] w W1:=by rw[hW1];exact((af.refl _ w).drew).alloc _
 have hgn:g≠N:=by omega
 rw[←hW1] at hrz hw0 hv0 hg0;rw[hN] at hrz hcpA hcpB hown;have Dn:(W1.setRow N jv).heap[N]?=some (.cells jv 54 (0,0)):=mZ W1 N ROW jv _ _ hw0;have hg1':(W1.setRow N jv).heap[g]?=some (.cells cur 54 (0,0)):=(jq W1 N _ _ hgn).trans hg0;have MH:∀ ty dc,_:=hcpA W1 hw0 hv0;obtain⟨W2,hW2⟩:∃ W2,W2=W1.setRow N jv:=⟨_,rfl⟩;have hk2:af [N] W1 W2:=by rw[hW2];exact⟨rfl,rfl,rfl,by simp,fun b hb hm=>jq W1 _ _ _ (by simpa using hm)⟩
 rw[←hW2] at MH Dn hg1';have FI:∀ ty dc sc,_:=hcpB W2.drew Dn hg1';have hfin:(W2.drew.setRow N qe).heap[N]?=some (.cells qe 54 (0,0)):=mZ W2.drew N jv qe _ _ Dn;have gA:=ae (And.intro (hown _ hfin) (show af [] w (W2.drew.setRow N qe) from(hk1.step hk2 (fun b hb=>.inr (by simp at hb;omega))).step (⟨rfl,rfl,rfl,by rw[show(W2.drew.setRow N qe).heap.size=W2.drew.heap.size by simp];exact aq _,fun b hb hm=>jq W2.drew _ _ _ (by simpa using hm)⟩:af [N] W2 (W2.drew.setRow N qe)) (fun b hb=>.inr (by simp at hb;omega))));have xW:=ae hN;have HW1:=ae hW1;have HW2:=ae hW2;obtain⟨n,hn'⟩:∃ n,l.length=n:=⟨_,rfl⟩;rw[hn'] at gA MH FI hrz hi hn hGn ⊢;have hG63:G≤9223372036854775807:=by unfold maxLen at YF;omega
 have hz1:¬((i:Int)=(n:Int)):=by omega
 have hz3:(n:Int)<(n:Int)+1:=by omega
 have hin:i≤n:=by omega
 have hw1:IntKind.i64.wrap ((i:Int)+1)=(i:Int)+1:=by rw[cH];omega
 have hb1:(0:Int)≤(i:Int)+1:=by omega
 have htn:((i:Int)+1).toNat=i+1:=by omega
 have hb3:(i:Int)≤(n:Int):=by omega
 have hGi:¬(G=i):=by omega
 have hGim:¬(G=i+1):=by omega
 have hci:¬(n=i):=by omega
 clear h hg hvb hcs hcs1 hcs2 htk hcpA hcpB hown m1 m2 m3 hl1 hl2 yU yT hA hC eA eC MP hat hold hG YF hROW hkk hik hRs hRl hRA hN hw0 hv0 hg0 hW1 hk1 hgn Dn hg1' hW2 hk2 hfin hn' hcm hlc hgl hvl hB hBg hi9 iV iA im hsz;go_enter Tryz.func108,Tryz.ntmps108
 go_wp2_with (first
  | (at_builtin;refine Lib.wpList_append_run _ rfl _ _ _ _ rfl _ _ rfl rfl _ _ (hrz _) ?_)
  | (at_builtin;refine zC rfl _ _ 34 34 rfl _ _ rfl rfl (MH _ _) ?_))
 go_region_law (refine wW rfl _ _ 34 34 rfl (.slice (some ⟨N,(i+1)*2,none⟩) (n+1-(i+1)) (G-(i+1))) (.slice (some ⟨g,i*2,none⟩) (n-i) (n-i)) (by simp[Act.eval,Act.put]) (by simp[Act.eval,Act.put]) (FI _ _ _) ?_)
 go_wp2_with fail
 go_ret;exact⟨_,rfl,gA.out.1,gA.out.2.mono (by simp),fun k hk=>.inr (by have:=xW.out;simp[Value.ownBlock] at hk;omega)⟩
theorem KY (B i vb:Nat) (v:Value) (l:List (ByteArray×Nat)) (y:ByteArray×Nat) (w:World) (h:bF dN 2 54 B w v l) (hB:B≤w.heap.size) (hn:l.length≤1048576) (hi:i≤l.length)
  (hvb:w.heap[vb]?=some (.cells #[.string y.1,.float .f64 y.2] 54 (0,0))) (hne:v.ownBlock≠some vb):
  Calls Tryz.prog 108 #[v,.int .i64 (i:Int),.slice (some ⟨vb,0,none⟩) 1 1] w fun r w'=>∃ v',r=.returned v'∧Ms B w w' v v' (l.take i++y::l.drop i):=by
 rcases dY hi with hlt|rfl
 ·obtain⟨a,cap,rfl,hc1,hc2,hc3,ha⟩:=h.form;obtain⟨g,rfl⟩:=ha (by omega)
  by_cases hc:l.length+1≤cap
  ·refine(KX B g l.length cap i vb l y w h hn hlt hc hvb (fun e=>hne (by rw[e];rfl))).mono ?_;rintro r w' ⟨h1,h2⟩;exact⟨_,h1,h2⟩
  ·obtain rfl:cap=l.length:=by omega
   exact NX B g l.length i vb l y w h hB hn hlt hvb
 ·rw[fA,List.drop_length];exact Rz B v l vb y w h hB hn hvb
end jw
namespace ks.fd
@[go_sem] theorem Jf {P:Program} {w:World} {a:Addr} {m:Mode} (k:FloatKind) (n:Nat):(store a (.float k n) m).run P w=stored P w a (.float k n) m:=run_store P w a _ m rfl
def dty:DTy Nat:=⟨241,239,236,fun v=>[.float .f64 v]⟩
theorem wX (seed:Nat) (k:ByteArray) (db tb n:Nat) (w:World) (h1:seed<18446744073709551616) (hk:k.size≤maxLen) (hc:w.cell? ⟨db,0,none⟩=some (.int .u64 seed)) (h0:0<n) (hn:n≤4611686018427387904):
  Calls Tryz.prog 176 #[dp db,.slice (some ⟨tb,0,none⟩) n n,.string k] w fun e w'=>e=.returned (.pointer (some ⟨tb,dQ seed n k,none⟩))∧w=w':=by
 have hs:=yp (hash seed k) n (BI seed k) h0 hn;obtain⟨i,hi⟩:∃ i,i=dQ seed n k:=⟨_,rfl⟩;have hlt:i<n:=by rw[hi];exact tz h0 k
 rw[show hash seed k &&& (n-1)=i from hi.symm] at hs;rw[←hi];clear hi;unfold dp;go_enter Tryz.func176,Tryz.ntmps176
 go_wp2_with (go_at_call 207;refine(Lu seed k _ h1 hk).mono ?_;rintro e w' ⟨rfl,rfl⟩)
 go_ret;exact⟨rfl,rfl⟩
theorem sE (seed:Nat) (k:ByteArray) (db tb:Nat) (t:Tab Nat) (w:World) (h1:seed<18446744073709551616) (hk:k.size≤maxLen) (hc:w.cell? ⟨db,0,none⟩=some (.int .u64 seed)) (ht:TabIs dty w tb t) (hn:t.length≤4611686018427387904):
  Calls Tryz.prog 172 #[dp db,fJ tb t,.string k] w fun e w'=>e=.returned (.pointer (fj dty seed tb t k))∧w=w':=by
 by_cases hne:t=[]
 ·subst hne;rw[show fJ tb ([]:Tab Nat)=.slice none 0 0 from rfl,show fj dty seed tb [] k=none from rfl];clear hc ht hn;unfold dp;go_enter Tryz.func172,Tryz.ntmps172
  go_wp2
  go_ret;exact⟨rfl,rfl⟩
 ·have hp:0<t.length:=bZ.2 hne;obtain⟨l,hl⟩:=pB hne seed k;obtain⟨n,hnn⟩:∃ n,n=t.length:=⟨_,rfl⟩;have hla:fj dty seed tb t k=eU dty k l ⟨tb,dQ seed n k,none⟩:=by unfold fj;rw[hl,hnn];rfl
  have hcl:=ht.cell hl;have hch:=ht.ch l (aB hl);rw[←hnn] at hp hn hcl;have qj:fJ tb t=.slice (some ⟨tb,0,none⟩) n n:=by unfold fJ;rw[aJ hne,hnn]
  rw[hla,qj];obtain⟨a,ha⟩:∃ a,a=(⟨tb,dQ seed n k,none⟩:Addr):=⟨_,rfl⟩;rw[←ha] at hcl ⊢;obtain⟨R,hR⟩:∃ R,R=eU dty k l a:=⟨_,rfl⟩;rw[←hR];have HRR:=ae hR;clear hR;have HA:=ae ha;have zB:=ae hch;have Pa:=ae hcl;have HC:=ae hc;clear hla qj hnn hl ha ht hne hch hcl;unfold dp;go_enter Tryz.func172,Tryz.ntmps172
  go_wp2_with (go_at_call 176;refine(wX seed k db tb n _ h1 hk HC.out hp hn).mono ?_;rintro e w' ⟨rfl,rfl⟩)
  go_loopg [7] l.length (fun g p wr=>wr=w∧∃ (m:List (DE Nat)) (b:Addr),p=.pointer (some b)∧Hid (m.length=g∧e9 dty w m∧w.cell? b=some (ptr m)∧R=eU dty k m b))
  case atStart=>exact⟨rfl,l,a,by rw[HA.out],ae ⟨rfl,zB.out,Pa.out,HRR.out⟩⟩
  case round=>
   obtain⟨rfl,m,b,rfl,hm⟩:=hrel;obtain⟨h1,h2,h3,h4⟩:=hm.out;clear hm
   cases m with
   | nil=>
    unfold ptr at h3;have H1:=ae h1;have H4:=ae h4;clear h1 h2 h4 hc;go_wp2
    go_ret;exact⟨by rw[H4.out];rfl,rfl⟩
   | cons e r=>
    have hkc:=qs h2.1;unfold ptr at h3;have H1:=ae h1;have H2:=ae h2;have H4:=ae h4;clear h1 h2 h4 hc
    by_cases hek:e.k=k
    ·have hcmp:=ux hek;go_wp2
     go_ret;refine⟨?_,rfl⟩;rw[H4.out];unfold eU;rw[aQ hek];rfl
    ·have hcmp:=iB hek;go_wp2
     go_roundg r.length
     case measure=>have:=H1.out;simp at this;omega
     case rel=>
      refine⟨rfl,r,⟨e.b,2,none⟩,rfl,ae ⟨rfl,H2.out.2,jM H2.out.1,?_⟩⟩;rw[H4.out]
      show eU dty k (e::r) b=eU dty k r (wF dty e)
      conv=>lhs;unfold eU
      rw[aJ hek]
theorem qq (db yb:Nat) (w:World) (hc:w.cell? ⟨db,2,none⟩=some (.slice none 0 0)):
  Calls Tryz.prog 149 #[dp db] w fun e w'=>e=.returned (.bool false)∧w=w':=by
 unfold dp;go_enter Tryz.func149,Tryz.ntmps149
 go_wp2
 go_ret;exact⟨rfl,rfl⟩
theorem oJ (db yb n:Nat) (w:World) (h0:0<n) (hc:w.cell? ⟨db,2,none⟩=some (.slice (some ⟨yb,0,none⟩) n n)):
  Calls Tryz.prog 149 #[dp db] w fun e w'=>e=.returned (.bool true)∧w=w':=by
 unfold dp;go_enter Tryz.func149,Tryz.ntmps149
 go_wp2
 go_ret;exact⟨yw (by simp),rfl⟩
def mv (D:DM Nat):Bool:=!D.aW.isEmpty
theorem iC (db:Nat) (D:DM Nat) (w:World) (h:bu dty w db D):
  Calls Tryz.prog 149 #[dp db] w fun e w'=>e=.returned (.bool (mv D))∧w=w':=by
 have h2:=h.c2
 by_cases hy:D.aW=[]
 ·rw[show mv D=false by unfold mv;rw[hy];rfl];rw[hy] at h2;exact qq db 0 w h2
 ·rw[show mv D=true by unfold mv;cases hd:D.aW with|nil=>exact absurd hd hy|cons=>rfl];rw[eQ hy] at h2;exact oJ db D.yb D.aW.length w (bZ.2 hy) h2
theorem xj (db:Nat) (D:DM Nat) (k:ByteArray) (w:World) (h:bu dty w db D) (hk:k.size≤maxLen):
  Calls Tryz.prog 141 #[dp db,.string k] w fun e w'=>e=.returned (.pointer (D.ln dty k))∧w=w':=by
 have c0:=h.c0;have c1:=h.c1;have c2:=h.c2;have H:=ae h;have MI:=ae c0;have vC:=h.bo;have hby:=h.by_;clear h c0;obtain⟨p,hp⟩:∃ p,p=fj dty D.seed D.ob D.old k:=⟨_,rfl⟩;unfold dp DM.ln;rw[←hp]
 cases p with
 | some a=>
  have HP:=ae hp;clear hp;rw[show(some a).or (fj dty D.seed D.yb D.aW k)=some a from rfl];go_enter Tryz.func141,Tryz.ntmps141
  go_wp2_with fail
  refine(sE D.seed k db D.ob D.old _ H.out.sd hk MI.out H.out.ho (by omega)).mono ?_;rintro e w' ⟨rfl,rfl⟩;rw[←HP.out];go_wp2
  go_ret;exact⟨rfl,rfl⟩
 | none=>
  have HP:=ae hp;clear hp;rw[show(none:Option Addr).or (fj dty D.seed D.yb D.aW k)=fj dty D.seed D.yb D.aW k from rfl];go_enter Tryz.func141,Tryz.ntmps141
  go_wp2_with fail
  refine(sE D.seed k db D.ob D.old _ H.out.sd hk MI.out H.out.ho (by omega)).mono ?_;rintro e w' ⟨rfl,rfl⟩;rw[←HP.out];go_wp2_with fail
  refine(sE D.seed k db D.yb D.aW _ H.out.sd hk MI.out H.out.hy (by omega)).mono ?_;rintro e w' ⟨rfl,rfl⟩;go_wp2
  go_ret;exact⟨rfl,rfl⟩
theorem xg (seed db tb:Nat) (t:Tab Nat) (e:DE Nat) (nx:Value) (w:World) (h1:seed<18446744073709551616) (hk:e.k.size≤maxLen) (hc:w.cell? ⟨db,0,none⟩=some (.int .u64 seed))
  (ht:TabIs dty w tb t) (hne:t≠[]) (hn:t.length≤4611686018427387904) (he:w.heap[e.b]?=some (gG dty e nx)) (hnd:(e.b::cg tb t).Nodup):
  Calls Tryz.prog 150 #[dp db,fJ tb t,dp e.b] w fun r w'=>r=.returned (.tuple #[])∧TabIs dty w' tb (gZ seed t e)∧af [e.b,tb] w w':=by
 obtain⟨l,hl⟩:=pB hne seed e.k;have hp:0<t.length:=bZ.2 hne;have hcl:=ht.cell hl;have hfr:=ht.free hne (dQ seed t.length e.k);have hfe:=As he 2;have hkc:=qs he;have hnc:w.cell? ⟨e.b,2,none⟩=some nx:=jM he;have hlast:=ht.gZ hne seed hl he hnd
 have hkeep:af [e.b,tb] w ((w.setCell ⟨e.b,2,none⟩ (ptr l)).setCell ⟨tb,dQ seed t.length e.k,none⟩ (ptr (e::l))):=((af.refl _ w).setCell (p:=⟨e.b,2,none⟩) (.inl (by simp)) _).setCell (p:=⟨tb,_,none⟩) (.inl (by simp)) _
 have hbt:e.b≠tb:=by rw[bT] at hnd;exact fun e2=>hnd.1 (e2 ▸ gQ hne)
 rw[eQ hne];generalize hnn:t.length=n at hp hn hcl hfr hlast hkeep ⊢
 obtain⟨i,hi⟩:∃ i,i=dQ seed n e.k:=⟨_,rfl⟩;rw[←hi] at hcl hfr hlast hkeep;have HC:=ae hc;have HI:=ae hi;obtain⟨x,hx⟩:=sw l;rw[hx] at hcl hlast hkeep;have HL:=ae hlast;have HK:=ae hkeep;clear hl ht hne he hnd hlast hkeep hc hnn hi hx;unfold dp;go_enter Tryz.func150,Tryz.ntmps150
 go_wp2_with (go_at_call 176;refine(wX seed e.k db tb n _ h1 hk HC.out hp hn).mono ?_;rintro r w' ⟨rfl,rfl⟩;rw[←HI.out])
 go_end0
 exact⟨rfl,HL.out,HK.out⟩
theorem WE (seed:Nat) (w:World):
  Calls Tryz.prog 105 #[.int .u64 seed] w fun e w'=>e=.returned (dp w.heap.size)∧w.alloc (lq dty (DM.new seed))=w':=by
 unfold dp;go_enter Tryz.func105,Tryz.ntmps105
 go_wp2
 go_ret;exact⟨rfl,rfl⟩
theorem Rh (seed:Nat) (w:World) (h:seed<18446744073709551616):bu dty (w.alloc (lq dty (DM.new seed))) w.heap.size (DM.new seed):=⟨aG w _,TabIs.nil _ _,TabIs.nil _ _,by simp[DM.blocks,DM.new,cg],h,fun e he=>by simp[DM.all,DM.new] at he,by simp[DM.new],by simp[DM.new],by simp[DM.new]⟩
end ks.fd
end Go.Proofs.YthpdlidbaojlbaaGreatDoor
