/- A region that draws, in a round: by the lone walk. -/
import Derived.Test.YthpdlidbaojlbaaGreatDoorQ11
set_option linter.unusedVariables false
set_option linter.unusedSimpArgs false
set_option maxHeartbeats 4000000
open Go.ChangeShapes Go.WideShapes Go.RowKit
namespace Go.Proofs.YthpdlidbaojlbaaGreatDoor
namespace ks
structure KP (G:Nat→Prop) (w w':World):Prop where
 os:w'.os=w.os
 tape:w'.tape=w.tape
 output:w'.output=w.output
 size:w.heap.size≤w'.heap.size
 block:∀ k,k<w.heap.size→G k→w'.heap[k]?=w.heap[k]?
namespace KP
variable {G H:Nat→Prop} {a b c w w':World}
theorem refl (G:Nat→Prop) (w:World):KP G w w:=⟨rfl,rfl,rfl,aq _,fun _ _ _=>rfl⟩
theorem trans (h:KP G a b) (k:KP G b c):KP G a c:=⟨k.os.trans h.os,k.tape.trans h.tape,k.output.trans h.output,aF h.size k.size,fun i hi hs=>(k.block i (aP hi h.size) hs).trans (h.block i hi hs)⟩
theorem mono (h:KP G a b) (hT:∀ k,k<a.heap.size→H k→G k):KP H a b:=⟨h.os,h.tape,h.output,h.size,fun i hi ht=>h.block i hi (hT i hi ht)⟩
theorem uU (h:KP G a b) (k:KP H b c) (hT:∀ k,k<a.heap.size→G k→H k):KP G a c:=⟨k.os.trans h.os,k.tape.trans h.tape,k.output.trans h.output,aF h.size k.size,fun i hi hs=>(k.block i (aP hi h.size) (hT i hi hs)).trans (h.block i hi hs)⟩
theorem alloc (h:KP G a b) (o:Obj):KP G a (b.alloc o):=h.trans ⟨rfl,rfl,rfl,by simp,fun k hk _=>Below.heap_alloc _ _ _ hk⟩
theorem drew (h:KP G a b):KP G a b.drew:=⟨h.os,h.tape,h.output,h.size,h.block⟩
theorem drewN (h:KP G a b) (n:Nat):KP G a (b.drewN n):=⟨h.os,h.tape,h.output,h.size,h.block⟩
theorem putObj (h:KP G a b) {l:Nat} (hl:¬(l<a.heap.size∧G l)) (o:Obj):KP G a (b.putObj l o):=⟨h.os,h.tape,h.output,by simpa using h.size,fun k hk hs=>(dL (fun e=>hl (by subst e;exact⟨hk,hs⟩))).trans (h.block k hk hs)⟩
theorem setCell (h:KP G a b) {p:Addr} (hp:¬(p.block<a.heap.size∧G p.block)) (u:Value):KP G a (b.setCell p u):=⟨h.os,h.tape,h.output,by simpa[World.setCell] using h.size,fun k hk hs=>(Below.heap_setCell _ _ _ _ (fun e=>hp (by rw[←e];exact⟨hk,hs⟩))).trans (h.block k hk hs)⟩
theorem il {bs:List Nat} (h:af bs a b) (hG:∀ k,k<a.heap.size→G k→k∉bs):KP G a b:=⟨h.os,h.tape,h.output,h.size,fun k hk hs=>h.block k hk (hG k hk hs)⟩
theorem keeps {bs:List Nat} (h:KP G a b) (hG:∀ k,k<a.heap.size→k∉bs→G k):af bs a b:=⟨h.os,h.tape,h.output,h.size,fun k hk hs=>h.block k hk (hG k hk hs)⟩
end KP
abbrev eS:=Nat→Prop
def Abides {α:Type} (J:List α→eS→eS→World→Prop):Prop:=∀ pre G H A B,J pre G H A→KP G A B→J pre G H B
def pZ {α:Type} (F:Fence) (n:Nat) (P:Program) (g:Nat) (lb:Array Value) (encs:α→Array Value) (xs:List α) (Rd:eS) (W:World):Prop:=
 ∀ (l:Nat) (J:List α→eS→eS→World→Prop) (G0 H0:eS),Abides J→
  (∀ pre x rest G H W1,xs=pre++x::rest→J pre G H W1→YieldAt F (n-1) P l (encs x) W1 fun e W'=>e=.returned (.bool true)∧∃ G' H',J (pre++[x]) G' H' W'∧
   (∀ b,G' b→G b∨W1.heap.size≤b)∧(∀ b,H' b→H b∨W1.heap.size≤b)∧KP (fun b=>¬H b) W1 W')→
  J [] G0 H0 W→(∀ b,G0 b→b<W.heap.size)→(∀ b,H0 b→b<W.heap.size∧¬Rd b)→
  CallsIn F n P g (#[.func (.yield l) #[] #[]]++lb) W fun e W'=>(∃ v,e=.returned v)∧∃ G H,J xs G H W'∧(∀ b,H b→H0 b∨W.heap.size≤b)∧KP (fun b=>¬H0 b) W W'
def rA {α:Type} (I:List α→eS→eS→World→Prop) (ys:List α) (G H:eS) (W:World):Exit→Act→World→Prop
 | .normal,_,W'=>∃ G' H',I ys G' H' W'∧(∀ b,G' b→G b∨W.heap.size≤b)∧(∀ b,H' b→H b∨W.heap.size≤b)∧KP (fun b=>¬H b) W W'
 | _,_,_=>False
variable {F:Fence} {n:Nat} {P:Program}
theorem fI {α:Type} {g:Operand} {ps:Array Tmp} {assign body:Code} {Q:Exit→Act→World→Prop} {a:Act} {w:World}
  (hro:F.round=none) (h1:1≤n) {gf:Nat} {lb:Array Value} (hg:a.eval g=.func (.func gf) #[] lb) (hFg:F.fn gf) (eg:∀ args w,(callFunc gf args).run P w=.ok (.enter gf args) w)
  {encs:α→Array Value} {xs:List α} {Rd:eS} (hseq:∀ W,KP (fun _=>True) w W→pZ F (n-1) P gf lb encs xs Rd W) (hps:∀ x,(encs x).size=ps.size)
  (I:List α→eS→eS→World→Prop) (G0 H0:eS) (hI:Abides I) (h0:I [] G0 H0 w) (hG0:∀ b,G0 b→b<w.heap.size) (hH0:∀ b,H0 b→b<w.heap.size∧¬Rd b)
  (a₁:α→Act)
  (hassign:∀ (l:Nat) (x:α) (W:World) (K:Act→World→Prop),K (a₁ x) W→
   assign.wpIn (F.inRound l) (n-1-1) P (Exit.then K (fun _ _ _=>False)) { tmps:=(ps.zip (encs x)).foldl (fun t (p,v)=>t.setIfInBounds p v) a.tmps,defers:=[] } W)
  (hbody:∀ (l:Nat) (pre:List α) (x:α) (rest:List α) (G H:eS) (W:World),xs=pre++x::rest→I pre G H W→body.wpIn (F.inRound l) (n-1-1) P (rA I (pre++[x]) G H W) (a₁ x) W)
  (hdone:∀ (D:Nat) (G H:eS) (W:World),w.heap.size≤D→I xs G H W→(∀ b,H b→H0 b∨w.heap.size≤b)→KP (fun b=>¬H0 b) w W→W.heap[D]?=some (.deferred (some []))→Q .normal { a with defers:={ target:=.collected D,args:=#[] }::a.defers } W):
  (Code.rangeFunc g ps assign body).wpIn F n P Q a w:=by
 refine wpIn_rangeFunc ?_;intro fn hfn;rw[hro];obtain⟨rec,hrec⟩:∃ rec:LoopState→Option Code→Loop,rec=fun st pe=>{ state:=st,pending:=pe,fn,tmps:=a.tmps,params:=ps,assign,body,defers:=w.heap.size }:=⟨_,rfl⟩
 obtain⟨W1,hW1⟩:∃ W1,(w.alloc (.deferred (some []))).alloc (.loop (rec .ready none))=W1:=⟨_,rfl⟩
 have hL1:W1.heap[w.heap.size+1]?=some (.loop (rec .ready none)):=by rw[←hW1];have:=World.alloc_heap_new (w.alloc (.deferred (some []))) (.loop (rec .ready none));rwa [de] at this
 have hK1:W1.heap[w.heap.size]?=some (.deferred (some [])):=by rw[←hW1];exact(Below.heap_alloc _ _ _ (by simp)).trans (World.alloc_heap_new w _)
 have hk1:∀ G,KP G w W1:=fun G=>by rw[←hW1];exact((KP.refl G w).alloc _).alloc _
 have hz1:W1.heap.size=w.heap.size+2:=by rw[←hW1];simp
 obtain⟨L,hL⟩:∃ L,L=w.heap.size+1:=⟨_,rfl⟩;obtain⟨D,hD⟩:∃ D,D=w.heap.size:=⟨_,rfl⟩
 refine⟨w.heap.size+1,[{ target:=.collected w.heap.size,args:=#[] }],W1,{ target:=.fn (.func gf) lb,args:=#[.func (.yield (w.heap.size+1)) #[] #[]] },W1,gf,
  #[.func (.yield (w.heap.size+1)) #[] #[]]++lb,W1,?_,?_,?_,?_,fun _=>h1,?_⟩
 ·rw[←hW1,hrec];exact run_enterLoop_outer _ _ _ _ _
 ·simp only[resolve,hg];simp[go_sem]
 ·intro f' hf';simp[Target.leads] at hf';subst hf';exact hFg
 ·simp[invoke,go_sem,eg]
 ·rw[←hL] at hL1 ⊢;rw[←hD] at hK1;have YD:L≠D:=by omega
  refine(hseq W1 (hk1 _) L
   (fun pre G' H W=>∃ G:eS,(∀ b,G' b↔G b∨b=L∨b=D)∧I pre G H W∧(¬G L∧¬G D∧¬H L∧¬H D)∧W.heap[L]?=some (.loop (rec .ready none))∧W.heap[D]?=some (.deferred (some [])))
   (fun b=>G0 b∨b=L∨b=D) H0 ?_ ?_ ?_ ?_ ?_).mono ?_
  ·rintro pre G' H A B ⟨G,hG,hi,hn,hl,hd⟩ hk;exact⟨G,hG,hI _ _ _ _ _ hi (hk.mono (fun b _ hb=>(hG b).2 (.inl hb))),hn,(hk.block L (hlt hl) ((hG L).2 (.inr (.inl rfl)))).trans hl,(hk.block D (hlt hd) ((hG D).2 (.inr (.inr rfl)))).trans hd⟩
  ·rintro pre x rest G' H W hx ⟨G,hG,hi,⟨n1,n2,n3,n4⟩,hl,hd⟩;have hy:=run_yield (P:=P) (args:=encs x) hl (by rw[hrec];exact hps x);rw[hrec] at hy;refine⟨fn,_,assign,body,hy,roundIn_of_wpIn hfn (hassign _ x W _ ?_)⟩;clear hy;refine⟨_,run_beginRound hl (by rw[hrec]),?_⟩;obtain⟨W2,hW2⟩:∃ W2,W.putObj L (.loop { rec .ready none with state:=.busy })=W2:=⟨_,rfl⟩;rw[hW2];have hl2:W2.heap[L]?=some (.loop { rec .ready none with state:=.busy }):=by rw[←hW2];exact lX (hlt hl)
   have hd2:W2.heap[D]?=some (.deferred (some [])):=by rw[←hW2];exact(dL YD.symm).trans hd
   have hz2:W2.heap.size=W.heap.size:=by rw[←hW2];simp
   have hi2:I pre G H W2:=by rw[←hW2];exact hI _ _ _ _ _ hi ((KP.refl _ _).putObj (fun h=>n1 h.2) _)
   refine wpIn_mono (hbody _ pre x rest G H W2 hx hi2) ?_;rintro e a3 W3 hp
   cases e with
   | normal=>
    obtain⟨G3,H3,hi3,g3,h3,k3⟩:=hp;have hl3:W3.heap[L]?=some (.loop { rec .ready none with state:=.busy }):=(k3.block L (hlt hl2) n3).trans hl2;have hd3:W3.heap[D]?=some (.deferred (some [])):=(k3.block D (hlt hd2) n4).trans hd2;have sH:=run_endRound (P:=P) none hl3;have hll:L<W2.heap.size:=hlt hl2;have hdl:D<W2.heap.size:=hlt hd2
    have hnG:¬G3 L∧¬G3 D∧¬H3 L∧¬H3 D:=by
     refine⟨fun h=>?_,fun h=>?_,fun h=>?_,fun h=>?_⟩
     ·rcases g3 L h with h|h;exact n1 h;omega
     ·rcases g3 D h with h|h;exact n2 h;omega
     ·rcases h3 L h with h|h;exact n3 h;omega
     ·rcases h3 D h with h|h;exact n4 h;omega
    refine⟨_,_,sH,rfl,(fun b=>G3 b∨b=L∨b=D),H3,⟨G3,fun b=>rO,hI _ _ _ _ _ hi3 ((KP.refl _ _).putObj (fun h=>hnG.1 h.2) _),hnG,?_,(dL YD.symm).trans hd3⟩,?_,?_,?_⟩
    ·rw[lX (hlt hl3)];rw[hrec];rfl
    ·rintro b (hb|hb|hb)
     ·rcases g3 b hb with h|h
      ·exact .inl ((hG b).2 (.inl h))
      ·right;omega
     ·exact .inl ((hG b).2 (.inr (.inl hb)))
     ·exact .inl ((hG b).2 (.inr (.inr hb)))
    ·intro b hb
     rcases h3 b hb with h|h
     ·exact .inl h
     ·right;omega
    ·refine⟨k3.os.trans (by rw[←hW2];rfl),k3.tape.trans (by rw[←hW2];rfl),k3.output.trans (by rw[←hW2];rfl),by have:=k3.size;simp;omega,fun b hb hs=>?_⟩
     by_cases hbl:b=L
     ·subst hbl;rw[lX (hlt hl3),hl,hrec];rfl
     ·rw[dL hbl,k3.block b (by omega) hs,←hW2,dL hbl]
   | ret=>exact hp.elim
   | exit id=>exact hp.elim
   | goto t=>exact hp.elim
   | panic ch=>exact hp.elim
   | outgrown=>exact hp.elim
  ·exact⟨G0,fun b=>rO,hI _ _ _ _ _ h0 (hk1 _),⟨fun h=>by have:=hG0 _ h;omega,fun h=>by have:=hG0 _ h;omega,fun h=>by have:=(hH0 _ h).1;omega,fun h=>by have:=(hH0 _ h).1;omega⟩,hL1,hK1⟩
  ·rintro b (hb|hb|hb)
   ·have:=hG0 b hb;omega
   ·omega
   ·omega
  ·exact fun b hb=>⟨by have:=(hH0 b hb).1;omega,(hH0 b hb).2⟩
  ·rintro e W2 ⟨⟨v,rfl⟩,G',H,⟨G,hG,hi,⟨n1,n2,n3,n4⟩,hl,hd⟩,hH,hk⟩;have sH:=run_endLoop (P:=P) hl (by rw[hrec];simp);rw[hrec] at sH;refine⟨none,_,sH,?_⟩;rw[←hD];refine hdone D G H _ (by omega) (hI _ _ _ _ _ hi ((KP.refl _ _).putObj (fun h=>n1 h.2) _)) (fun b hb=>?_) ?_ ((dL YD.symm).trans hd)
   ·rcases hH b hb with h|h
    ·exact .inl h
    ·right;omega
   ·exact((hk1 _).uU hk (fun b _ h=>h)).putObj (fun h=>by omega) _
end ks
namespace jw
open ks (af ae hlt ah bC alloc_old aG aX aT dp KP pZ eS)
attribute [local go_sem] Oper.semAt_some
theorem Er (c m:Nat) (hm:m≤32):∀ W,(Instr.sliceAt 156 (.pointer (some ⟨c,0,none⟩)) none (some (.int .i64 (m:Int))) none).run Tryz.prog W=.ok (.slice (some ⟨c,0,none⟩) m 32) W:=fun W=>by
 have hal:Tryz.prog.arrayLen 156=32:=by kernel_rfl
 rw[run_sliceAt_array_h W 156 ⟨c,0,none⟩ (by kernel_rfl) .i64 (m:Int) (by omega) (by rw[hal];omega)];have hs:(sizeOf (Tryz.prog.elem 156)).run Tryz.prog W=.ok 1 W:=by kernel_rfl
 rw[hs,hal];unfold slicedAt;simp[Result.andThen,Addr.add]
theorem JC {ds:List CK} {k j:Nat} {c:CK} {s:ByteArray} (hc:ds[k]?=some c) (hs:c.ts[j]?=some s):(cO ds)[(cO (ds.take k)).length+j]?=some s:=by
 induction ds generalizing k with
 | nil=>simp at hc
 | cons d ds ih=>
  cases k with
  | zero=>simp at hc;subst hc;have hl:=(au.1 hs).1;unfold cO;simp only[List.take_zero,List.flatMap_nil,List.length_nil,bD,di];rw[b8 hl];exact hs
  | succ k=>have:=ih (k:=k) (by simpa using hc);unfold cO at *;rw[List.take_succ_cons,di,di,aM,fW,bN (by omega),dC];exact this
theorem Eh {ds:List CK} {k:Nat} {c:CK} (hc:ds[k]?=some c):(cO (ds.take (k+1))).length=(cO (ds.take k)).length+c.ts.length:=by rw[c8,hc];unfold cO;simp
structure EaR (J:List (ByteArray×Nat)→eS→eS→World→Prop) (H0:eS) (W Wc:World) (xs:List (ByteArray×Nat)) (m:Nat) (X:World):Prop where
 j:∃ G H,J (xs.take m) G H X∧∀ b,H b→H0 b∨Wc.heap.size≤b
 kp:KP (fun b=>¬H0 b) Wc X
theorem EaR.step {J:List (ByteArray×Nat)→eS→eS→World→Prop} {H0:eS} {W Wc:World} {xs:List (ByteArray×Nat)} {m:Nat} {X Y:World} {x:ByteArray×Nat} (h:KP (fun b=>¬H0 b) Wc X) {G H:eS} (hH:∀ b,H b→H0 b∨Wc.heap.size≤b) (hx:xs[m]?=some x)
  (hr:∃ G' H',J (xs.take m++[x]) G' H' Y∧(∀ b,G' b→G b∨X.heap.size≤b)∧(∀ b,H' b→H b∨X.heap.size≤b)∧KP (fun b=>¬H b) X Y):EaR J H0 W Wc xs (m+1) Y:=by
 obtain⟨G',H',hj,hg,hh,hk⟩:=hr;refine⟨⟨G',H',by rw[c8,hx];exact hj,fun b hb=>?_⟩,h.uU hk (fun b hl hb hc=>?_)⟩
 ·rcases hh b hb with h1|h1
  ·exact hH b h1
  ·exact .inr (aF h.size h1)
 ·rcases hH b hc with h1|h1
  ·exact hb h1
  ·omega
theorem EaR.lW {J:List (ByteArray×Nat)→eS→eS→World→Prop} {H0:eS} {W Wc:World} {xs:List (ByteArray×Nat)} {m:Nat} {X Y:World} (hJ:ks.Abides J) (h:EaR J H0 W Wc xs m X) (hk:KP (fun _=>True) X Y):EaR J H0 W Wc xs m Y:=by obtain⟨⟨G,H,hj,hh⟩,hp⟩:=h;exact⟨⟨G,H,hJ _ _ _ _ _ hj (hk.mono (fun _ _ _=>trivial)),hh⟩,hp.trans (hk.mono (fun _ _ _=>trivial))⟩
set_option maxRecDepth 8000 in
theorem Ou (n B cx db:Nat) (sv:Value) (cs:List CK) (cost:Nat) (W:World) (hn:3≤n) (hcx:W.cell? ⟨cx,0,none⟩=some (dp db)) (h:o9 B W db sv cs cost) (hb:(cO cs).length≤1048576):
  pZ (α:=ByteArray×Nat) Fence.wide n Tryz.prog 329 #[dp cx] (fun x=>#[.int .i64 (x.2:Int),.string x.1]) (cO cs).zipIdx (fun _=>False) W:=by
 intro l J G0 H0 hJ hY h0 hG hH;have h1:1≤n:=by omega
 have HJ:=ae hJ;have HY:=ae hY;have HC:=ae (Ow B db sv cs cost W h hb);clear hJ hY h;unfold dp at hcx HC ⊢;refine uh Tryz.func329 rfl trivial ?_ rfl;simp only[Tryz.ntmps329,cJ,List.length_cons,List.length_nil,Nat.reduceAdd,Nat.reduceSub,fv,Array.replicate_zero,gd,fF,List.nil_append,List.cons_append]
 gi_wp2_with (refine⟨trivial,?_⟩;gi_at_call 330;refine(fw.2 HC.out).mono ?_;rintro e Wc ⟨ob,TQ,ds,rfl,hc0,zI,hrow,hch,hts,hkc⟩;obtain⟨a2,cap2,hv2,hb2,hb3,_,ha2⟩:=hrow.form;obtain⟨n2,hn2⟩:∃ n2,ds.length=n2:=⟨_,rfl⟩;rw[hv2,hn2] at hc0;rw[hn2] at hv2 hb2)
 have hlow:∀ b,W.heap.size≤b→¬H0 b:=fun b hb1 hb2=>by have:=(hH b hb2).1;omega
 have htx:cO ds=cO cs:=by unfold cO;rw[List.flatMap_def,List.flatMap_def,hts]
 have hj0:=HJ.out _ _ _ _ _ h0 (KP.il (G:=G0) hkc (fun _ _ _=>by simp));have Ea:Hid (EaR J H0 W Wc (cO cs).zipIdx 0 Wc):=ae ⟨⟨G0,H0,hj0,fun b hb=>.inl hb⟩,KP.refl _ _⟩
 have gA:Hid (∀ (X:World) (m:Nat),m=(cO cs).length→EaR J H0 W Wc (cO cs).zipIdx m X→∃ G H,J (cO cs).zipIdx G H X∧(∀ b,H b→H0 b∨W.heap.size≤b)∧KP (fun b=>¬H0 b) W X):=ae (fun X m hm hX=>by
  obtain⟨⟨G,H,hj,hh⟩,hk⟩:=hX;rw[aE (by simp;omega)] at hj
  exact⟨G,H,hj,fun b hb=>(hh b hb).imp id (fun h=>aF hkc.size h),(KP.il hkc (fun _ _ _=>by simp)).trans hk⟩)
 have zB:Hid (∀ (X:World) (k:Nat) (c:CK),KP (fun b=>¬H0 b) Wc X→ds[k]?=some c→∃ g,a2=some ⟨g,0,none⟩∧X.cell? ⟨g,k,none⟩=some (.pointer (some ⟨c.b,0,none⟩))∧X.heap[c.b]?=some (jb c.ts)∧c.ts.length≤32):=ae (fun X k c hk hc=>by
  obtain⟨g,rfl⟩:=ha2 (by have:=(au.1 hc).1;omega);have e1:=hch c (aB hc);have hr2:bF mf 1 159 W.heap.size X TQ ds:=hrow.bY (fun b hb=>hk.block b (hrow.lt b hb).2 (hlow b (hrow.lt b hb).1));rw[hv2,←hn2] at hr2;refine⟨g,rfl,?_,(hk.block c.b (hlt e1.1) (hlow _ e1.2.1)).trans e1.1,e1.2.2⟩;have:=bF.cell (enc:=mf) (fun _=>rfl) hr2 hc (j:=0) (u:=dp c.b) rfl
  rwa [bB,Nat.add_zero] at this)
 have O6:=ae hn2.symm;have hnb:n2≤9223372036854775807:=by unfold maxLen at hb3;omega
 clear hb2 hb3;have GX:=ae htx;have hl2:(cO ds).length≤1048576:=by rw[htx];exact hb
 have HL2:=ae hl2;clear hv2 hrow hch hts hkc hj0 h0 hn2 htx hl2 ha2 hlow hcx HC hb
 gi_loopw [14,3,5,7] (fun i m _ _ X=>∃ k:Nat,i=.int .i64 (k:Int)∧k≤n2∧m=.int .i64 (((cO (ds.take k)).length:Nat):Int)∧Hid (EaR J H0 W Wc (cO cs).zipIdx (cO (ds.take k)).length X)) (fun i _ _ _ _=>n2-(intOf i).toNat)
 case atStart=>exact⟨0,rfl,bz _,rfl,Ea⟩
 case round=>
  obtain⟨k,rfl,hk,rfl,HV⟩:=hrel;clear hc0
  by_cases hlt:k<n2
  ·obtain⟨c,hc⟩:∃ c,ds[k]?=some c:=⟨_,ag (by rw[←O6.out];exact hlt)⟩;obtain⟨g,rfl,hcl,hcb,hcn⟩:=zB.out wr k c HV.out.kp hc;have hl1:=Eh hc
   have hl3:(cO (ds.take (k+1))).length≤(cO ds).length:=by
    have e:cO ds=cO (ds.take (k+1))++cO (ds.drop (k+1)):=by unfold cO;rw[←gk,eH]
    rw[e,aM];omega
   have HTA:=ae (fun(j:Nat) (s:ByteArray) (hs:c.ts[j]?=some s)=>JC hc hs)
   have VU:=ae (fun(X:World) (hX:KP (fun b=>¬H0 b) Wc X)=>by
    obtain⟨g',e1,e2,e3,e4⟩:=zB.out X k c hX hc
    exact e3)
   have hkn:(k:Int)<(n2:Int):=by omega
   have hsl:=Er c.b c.ts.length hcn;have hcc:wr.cell? ⟨c.b,32,none⟩=some (.int .i64 (c.ts.length:Int)):=by rw[ah hcb,bX];exact vM hcn
   have hl4:=HL2.out;have MW:=ae hc;have TF:=ae hl1;obtain⟨len,hlen⟩:∃ len,len=(cO (ds.take k)).length:=⟨_,rfl⟩;obtain⟨m,hm⟩:∃ m,m=c.ts.length:=⟨_,rfl⟩;rw[←hlen] at HV HTA TF hl1 ⊢;rw[←hm] at hsl hcc hl1 hcn TF;have HM:=ae hm;have hlm:len+m≤1048576:=by omega
   clear hc hlen hm hl1 hl3 hl4 hcb
   gi_wp2
   gi_quiet (fail)
   gi_wp2
   gi_loopw [27,3,7] (fun i2 m2 _ X=>∃ j:Nat,i2=.int .i64 (j:Int)∧j≤m∧m2=.int .i64 ((len+j:Nat):Int)∧Hid (EaR J H0 W Wc (cO cs).zipIdx (len+j) X)) (fun i2 _ _ _=>m-(intOf i2).toNat)
   case atStart=>exact⟨0,rfl,bz _,rfl,ae (HV.out.lW HJ.out ((KP.refl _ _).drewN _))⟩
   case round=>
    obtain⟨j,rfl,hj,rfl,HE⟩:=hrel;clear hcl hcc hsl HV
    by_cases hjm:j<m
    ·obtain⟨s,hs⟩:∃ s,c.ts[j]?=some s:=⟨_,ag (by rw[←HM.out];exact hjm)⟩
     have hcs:wr.cell? ⟨c.b,j,none⟩=some (.string s):=by rw[ah (VU.out wr HE.out.kp),bX];exact tN hs
     have hxs:(cO cs).zipIdx[len+j]?=some (s,len+j):=by rw[td,←GX.out,HTA.out j s hs];simp
     have hjn:(j:Int)<(m:Int):=by omega
     have hsplit:(cO cs).zipIdx=(cO cs).zipIdx.take (len+j)++(s,len+j)::(cO cs).zipIdx.drop (len+j+1):=by have hl:=au.1 hxs;obtain⟨hl1,hl2⟩:=hl;rw[←hl2,←eT,eH]
     obtain⟨⟨G,H,hjj,xQ⟩,hkp⟩:=HE.out;obtain⟨fn,tmps,assign,body,hy,hR⟩:=HY.out _ _ _ G H wr hsplit hjj;simp only[Int.natCast_add] at hy;have Cs:=ae xQ;have FH:=ae hkp;have Vq:=ae hxs;have HR:=ae hR;clear xQ hkp hxs hsplit hs hjj hR
     gi_wp2
     refine HR.out.mono ?_;rintro e W3 ⟨rfl,hr⟩;have I:Hid (EaR J H0 W Wc (cO cs).zipIdx (len+(j+1)) W3):=ae (EaR.step FH.out Cs.out Vq.out hr);clear hr hy hcs
     gi_wp2
     refine⟨⟨j+1,rfl,by omega,by congr 1,I⟩,?_⟩;simp[intOf];omega
    ·obtain rfl:j=m:=by omega
     gi_wp2
     refine⟨⟨k+1,rfl,by omega,by rw[TF.out],by rw[TF.out];exact HE⟩,?_⟩;simp[intOf];omega
  ·obtain rfl:k=n2:=by omega
   gi_wp2
   go_end0
   exact⟨⟨_,rfl⟩,gA.out _ _ (by rw[O6.out,fA,GX.out]) HV.out⟩
theorem Ov (db:Nat) (W:World):
  Calls Tryz.prog 328 #[dp db] W fun r w'=>r=.returned (.func (.func 329) #[] #[dp W.heap.size])∧w'=W.alloc (.cells #[dp db] 98):=by
 unfold dp;go_enter Tryz.func328,Tryz.ntmps328
 go_wp2_with fail
 go_ret;exact⟨rfl,rfl⟩
end jw
namespace jw
section
variable {P:Program} {n l:Nat} {ops:Array Oper} {Q:Exit→Act→World→Prop}
theorem ye {o:Oper} {a:Act} {w:World} {K:Act→World→Prop} (hd:∀ c,o.op≠.defer c) (h:o.wp P a w K Q):o.wpIn (Fence.wide.inRound l) n P a w K Q:=by
 unfold Oper.wpIn Oper.wp at *;refine⟨fun f _=>trivial,?_⟩;rw[Oper.semAt_eq _ _ _ hd];generalize (execOp a.eval o).run P w=r at *
 have hz:∀ m,(Fence.wide.inRound l).depth.isSome=true→1≤m:=fun m h=>by simp[Fence.wide] at h
 cases r with
 | ok x w'=>
  cases x
  case value=>exact h
  case skip=>exact h
  case defer=>exact h
  case enter f args=>exact⟨hz n,CallsIn.inRound l (fw.2 h)⟩
  case row r args=>exact⟨hz n,fun c cs hr=>by
   obtain⟨v,w2,q,s⟩:=h c cs
   exact⟨v,w2,q,stepsIn_wide.2 s⟩⟩
  all_goals exact h.elim
 | halt x w'=>cases x<;>exact h
theorem yd {i:Nat} {a:Act} {w:World} {K K':Act→World→Prop} (hL:¬LetsOut Q) (hd:∀ (j:Nat) (o:Oper),ops[j]?=some o→∀ c,o.op≠Op.defer c) (hK:∀ a w,K a w→K' a w)
  (h:wpOp P ops Q i K a w):wpOpIn (Fence.wide.inRound l) n P ops Q i K' a w:=by
 have h:=wpOp_mono hK h;unfold wpOp at h;unfold wpOpIn
 cases ho:ops[i]? with
 | none=>simp only[ho] at h ⊢;exact h
 | some o=>
  simp only[ho] at h ⊢;split
  ·rename_i hw
   simp only[hw,kY] at h
   rcases h with h|h
   ·exact ye (hd i o ho) h
   ·exact(hL h.2).elim
  ·rename_i hw
   simp only[hw] at h;exact⟨fun _ _=>trivial,h⟩
theorem qk {md:Region.Mode} (hL:¬LetsOut Q) (hd:∀ (j:Nat) (o:Oper),ops[j]?=some o→∀ c,o.op≠Op.defer c):∀ (fuel:Nat) (listed:Array Bool) (a:Act) (w:World),wpAny P md ops Q fuel listed a w→wpAnyIn (Fence.wide.inRound l) n P md ops Q fuel listed a w
 | 0,_,_,_,h=>h
 | fuel+1,_,_,_,h=>⟨h.1,fun i hi=>yd hL hd (fun a w h=>qk hL hd fuel _ a w h) (h.2 i hi)⟩
theorem lJ {id:Nat} {a:Act} {w:World} (hm:P.follows .mixedOrders=true) (hL:¬LetsOut Q) (hd:ops.all (fun(o:Oper)=>match o.op with|Op.defer _=>false|_=>true)=true)
  (h:wpAny P .any ops Q ops.size (Array.replicate ops.size false) a w.drew):(Code.region id ops true).wpIn (Fence.wide.inRound l) n P Q a w:=
 wpIn_region_any hm (qk hL (fun j o ho c hc=>by
  have:=me.1 hd o (Array.mem_of_getElem? ho);rw[hc] at this
  simp at this) _ _ _ _ h)
end
end jw
end Go.Proofs.YthpdlidbaojlbaaGreatDoor
