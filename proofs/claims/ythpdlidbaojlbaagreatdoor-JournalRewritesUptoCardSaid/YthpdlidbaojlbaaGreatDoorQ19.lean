/- flock: New, Len, Has of what is not there. -/
import Derived.Test.YthpdlidbaojlbaaGreatDoorQ18
set_option linter.unusedVariables false
set_option linter.unusedSimpArgs false
set_option maxHeartbeats 4000000
open Go.ChangeShapes Go.WideShapes Go.RowKit
namespace Go.Proofs.YthpdlidbaojlbaaGreatDoor
namespace jw.ed
open ks (af ae hlt ah bC alloc_old aG aX aT dp KP eS)
def ZOk (v:Value) (n:Nat):Prop:=(v=.slice none 0 0∧n=0)∨∃ g cap,v=.slice (some ⟨g,0,none⟩) n cap∧n≤cap
theorem ZOk.form {v:Value} {n:Nat} (h:ZOk v n):∃ a cap,v=.slice a n cap∧(0<n→∃ g,a=some ⟨g,0,none⟩):=by
 rcases h with⟨rfl,rfl⟩|⟨g,cap,rfl,_⟩
 ·exact⟨_,_,rfl,fun h=>by omega⟩
 ·exact⟨_,_,rfl,fun _=>⟨g,rfl⟩⟩
theorem A6 {P:Program} (w:World) (t ty e:TypeId) (i:TypeInfo) (z:Value) (ht:P.underlying t=some (.slice e)) (hi:P.info? e=some i) (hz:i.zero=some z) (hs:i.size=0) (hb:i.bytes=0) (hzc:z.cells=#[])
  (v:Value) (n:Nat) (h:ZOk v n) (hn:n+1≤9223372036854775807) (a:Addr) (c:Nat):
  ∃ v' w',(Builtin.append_ #[t,t] ty #[v,.slice (some a) 1 c]).run P w=.ok v' w'∧ZOk v' (n+1)∧af [] w w':=by
 rcases h with⟨rfl,rfl⟩|⟨g,cap,rfl,hc⟩
 ·refine⟨_,_,oB w t ty e i z ht hi hz a 1 c [] (by simp[hs]) (by simp) (by decide) (by decide) (by rw[hb];decide),.inr ⟨_,_,rfl,sN _ _ _ _⟩,?_⟩;exact((af.refl _ w).drew).alloc _
 ·by_cases hr:n+1≤cap
  ·refine⟨_,_,run_append_room_cells w t ty e i ht hi g 0 n cap a 1 c [] (by simp[hs]) (by simp) (by simp) hr (by simp) (by simp),.inr ⟨_,_,rfl,hr⟩,?_⟩;exact af.refl _ _
  ·refine⟨_,_,nH w t ty e i z ht hi hz ⟨g,0,none⟩ n cap [] (by simp[hs]) (by simp) a 1 c [] (by simp[hs]) (by simp) (by omega) (by omega) (by rw[hb];simp),.inr ⟨_,_,rfl,sN _ _ _ _⟩,?_⟩;exact((af.refl _ w).drew).alloc _
theorem AV {P:Program} {w:World} {ops:Array Oper} {o:Oper} {a:Act} {K:Act→World→Prop} {Q:Exit→Act→World→Prop} {E:Prop} (hgd:o.guard=none) (s x:Operand) (t:TypeId)
  (ho:o.op=.call { callee:=.builtin .append,args:=#[s,x],argTypes:=#[t,t] }) (e:TypeId) (i:TypeInfo) (z:Value)
  (ht:P.underlying t=some (.slice e)) (hi:P.info? e=some i) (hz:i.zero=some z) (hs:i.size=0) (hb:i.bytes=0) (hzc:z.cells=#[])
  (v:Value) (n:Nat) (hv:a.eval s=v) (h:ZOk v n) (hn:n+1≤9223372036854775807) (ad:Addr) (c:Nat) (hx:a.eval x=.slice (some ad) 1 c)
  (hK:∀ v' w',ZOk v' (n+1)→af [] w w'→K (a.put o.dst v') w'):
  if Region.wanted o (yielded ops a.tmps)=true then Oper.wp P o a w K Q else E:=by
 have hw:Region.wanted o (yielded ops a.tmps)=true:=by simp[Region.wanted,hgd]
 rw[aQ hw];obtain⟨v',w',hrun,h1,h2⟩:=A6 (P:=P) w t o.type e i z ht hi hz hs hb hzc v n h hn ad c;unfold Oper.wp;simp[execOp,ho,resolve,invoke,builtin,hv,hx,hrun,Result.andThen];exact hK v' w' h1 h2
def OE (v:Value):Obj:=.cells #[v] 446 (0,0)
structure EzI (B bk bv:Nat) (Rb:eS) (R:World→Prop) (xs:List ByteArray) (n:Nat) (G H:eS) (X:World) (kv vv:Value):Prop where
 k:X.heap[bk]?=some (qn kv)
 v:X.heap[bv]?=some (OE vv)
 kr:bF b9 1 9 B X kv xs
 vr:ZOk vv n
 r:R X
 lo:∀ b,H b→B≤b
 rb:∀ b,Rb b→G b
 g:∀ b,b=bk∨b=bv∨kv.ownBlock=some b→G b
 h:∀ b,b=bk∨b=bv∨kv.ownBlock=some b→H b
variable {B bk bv n:Nat} {Rb:eS} {R:World→Prop} {xs:List ByteArray} {G H:eS} {X:World} {kv vv:Value}
theorem EzI.lW {Y:World} (h:EzI B bk bv Rb R xs n G H X kv vv) (hR:∀ X Y,R X→KP Rb X Y→R Y) (hk:KP G X Y):EzI B bk bv Rb R xs n G H Y kv vv:=
 ⟨(hk.block _ (hlt h.k) (h.g _ (.inl rfl))).trans h.k,(hk.block _ (hlt h.v) (h.g _ (.inr (.inl rfl)))).trans h.v,
  h.kr.bY (fun b hb=>hk.block b (h.kr.lt b hb).2 (h.g b (.inr (.inr hb)))),h.vr,
  hR _ _ h.r (hk.mono (fun b _ hb=>h.rb b hb)),h.lo,h.rb,h.g,h.h⟩
structure EzS (B bk bv:Nat) (Rb:eS) (R:World→Prop) (xs:List ByteArray) (n:Nat) (G0 H0:eS) (X0:World) (X:World) (kv vv:Value):Prop where
 e:∃ G H,EzI B bk bv Rb R xs n G H X kv vv∧(∀ b,G b→G0 b∨X0.heap.size≤b)∧(∀ b,H b→H0 b∨X0.heap.size≤b)
 kp:KP (fun b=>¬H0 b) X0 X
theorem EzS.start (h:EzI B bk bv Rb R xs n G H X kv vv):EzS B bk bv Rb R xs n G H X X kv vv:=⟨⟨G,H,h,fun b hb=>.inl hb,fun b hb=>.inl hb⟩,KP.refl _ _⟩
theorem EzS.pk {G0 H0:eS} {X0 w5:World} {s:ByteArray} {g m cap:Nat} (h:EzS B bk bv Rb R xs n G0 H0 X0 X kv vv) (hR:∀ X Y,R X→KP Rb X Y→R Y) (hRb:∀ b,Rb b→b<B) (hne:bk≠bv)
  (hp:eW b9 1 9 B X.drew w5 kv xs s g m cap):
  (∃ u,w5.cell? ⟨bk,0,none⟩=some u)∧w5.frozen? ⟨bk,0,none⟩=false∧EzS B bk bv Rb R (xs++[s]) n G0 H0 X0 (w5.setCell ⟨bk,0,none⟩ (.slice (some ⟨g,0,none⟩) (m+1) cap)) (.slice (some ⟨g,0,none⟩) (m+1) cap) vv:=by
 obtain⟨⟨G,H,h1,h2,h3⟩,h4⟩:=h;have b1:kv.ownBlock≠some bk:=h1.kr.bw h1.k (by decide);have b2:kv.ownBlock≠some bv:=h1.kr.bw h1.v (by decide);have k5:w5.heap[bk]?=some (qn kv):=hp.bY.get (show X.drew.heap[bk]?=_ from h1.k) (by simp;exact b1);have v5:w5.heap[bv]?=some (OE vv):=hp.bY.get (show X.drew.heap[bv]?=_ from h1.v) (by simp;exact b2);have hsz:X.drew.heap.size=X.heap.size:=rfl
 have Yj:g≠bk:=by
  rcases hp.at_ with e|e
  ·intro e2;rw[e2] at e;exact b1 e
  ·have:=hlt h1.k;omega
 have hkp:KP (fun b=>¬H b) X (w5.setCell ⟨bk,0,none⟩ (.slice (some ⟨g,0,none⟩) (m+1) cap)):=by refine KP.setCell (p:=⟨bk,0,none⟩) ?_ (fun hc=>by have:=hc.2;exact this (h1.h bk (.inl rfl))) _;have:=KP.il (G:=fun b=>¬H b) hp.bY (fun b _ hb hm=>hb (h1.h b (.inr (.inr (by simpa using hm)))));exact((KP.refl _ X).drew).trans this
 refine⟨⟨_,by rw[ah k5];rfl⟩,bC k5 0,⟨fun b=>G b∨b=g,fun b=>H b∨b=g,⟨?_,?_,?_,h1.vr,?_,?_,?_,?_,?_⟩,?_,?_⟩,?_⟩
 ·rw[aX k5 0 _];rfl
 ·exact(aT _ (fun e=>hne e.symm)).trans v5
 ·exact hp.own.bY (fun b hb=>aT _ (fun e=>Yj (by simp[Value.ownBlock] at hb;rw[hb];exact e)))
 ·exact hR _ _ h1.r (hkp.mono (fun b _ hb hc=>by have:=h1.lo b hc;have:=hRb b hb;omega))
 ·rintro b (hb|rfl)
  ·exact h1.lo b hb
  ·rcases hp.at_ with e|e
   ·exact(h1.kr.lt _ e).1
   ·have:=h1.lo bk (h1.h bk (.inl rfl));have:=hlt h1.k;omega
 ·exact fun b hb=>.inl (h1.rb b hb)
 ·rintro b (rfl|rfl|hb)
  ·exact .inl (h1.g _ (.inl rfl))
  ·exact .inl (h1.g _ (.inr (.inl rfl)))
  ·simp[Value.ownBlock] at hb;exact .inr hb.symm
 ·rintro b (rfl|rfl|hb)
  ·exact .inl (h1.h _ (.inl rfl))
  ·exact .inl (h1.h _ (.inr (.inl rfl)))
  ·simp[Value.ownBlock] at hb;exact .inr hb.symm
 ·rintro b (hb|rfl)
  ·exact h2 b hb
  ·rcases hp.at_ with e|e
   ·exact h2 b (h1.g _ (.inr (.inr e)))
   ·right;have:=h4.size;omega
 ·rintro b (hb|rfl)
  ·exact h3 b hb
  ·rcases hp.at_ with e|e
   ·exact h3 b (h1.h _ (.inr (.inr e)))
   ·right;have:=h4.size;omega
 ·exact h4.uU hkp (fun b hl hb hc=>by
   rcases h3 b hc with h5|h5
   ·exact hb h5
   ·omega)
theorem EzS.pv {G0 H0:eS} {X0 w5:World} {v':Value} (h:EzS B bk bv Rb R xs n G0 H0 X0 X kv vv) (hR:∀ X Y,R X→KP Rb X Y→R Y) (hRb:∀ b,Rb b→b<B) (hne:bk≠bv)
  (hz:ZOk v' (n+1)) (hk:af [] X w5):
  (∃ u,w5.cell? ⟨bv,0,none⟩=some u)∧w5.frozen? ⟨bv,0,none⟩=false∧EzS B bk bv Rb R xs (n+1) G0 H0 X0 (w5.setCell ⟨bv,0,none⟩ v') kv v':=by
 obtain⟨⟨G,H,h1,h2,h3⟩,h4⟩:=h;have b2:kv.ownBlock≠some bv:=h1.kr.bw h1.v (by decide);have k5:=hk.get h1.k (by simp);have v5:=hk.get h1.v (by simp)
 have hkp:KP (fun b=>¬H b) X (w5.setCell ⟨bv,0,none⟩ v'):=by refine KP.setCell (p:=⟨bv,0,none⟩) ?_ (fun hc=>by have:=hc.2;exact this (h1.h bv (.inr (.inl rfl)))) _;exact KP.il (G:=fun b=>¬H b) hk (fun b _ hb hm=>by simp at hm)
 refine⟨⟨_,by rw[ah v5];rfl⟩,bC v5 0,⟨G,H,⟨(aT _ hne).trans k5,?_,?_,hz,?_,h1.lo,h1.rb,h1.g,h1.h⟩,h2,h3⟩,?_⟩
 ·rw[aX v5 0 _];rfl
 ·exact h1.kr.bY (fun b hb=>(aT (a:=⟨bv,0,none⟩) _ (fun e=>b2 (by rw[hb];exact congrArg some e))).trans (hk.block b (h1.kr.lt b hb).2 (by simp)))
 ·exact hR _ _ h1.r (hkp.mono (fun b _ hb hc=>by have:=h1.lo b hc;have:=hRb b hb;omega))
 ·exact h4.uU hkp (fun b hl hb hc=>by
   rcases h3 b hc with h5|h5
   ·exact hb h5
   ·omega)
theorem CW (b:Nat) (cs:Array Value) (X:World) (h:X.heap[b]?=some (.cells cs 231 (0,0))):Sem.run Tryz.prog (partAt ⟨b,0,none⟩ 1 16) X=.ok ⟨b,1,none⟩ X:=by
 have e1:Tryz.prog.cellsOf 231=2:=by kernel_rfl
 have e2:byteOfCell Tryz.prog Tryz.prog.depth 231 0=some 0:=by kernel_rfl
 have e3:byteOfCell Tryz.prog Tryz.prog.depth 231 1=some 16:=by kernel_rfl
 have e4:X.shape? b=some (231,cs.size):=by simp[World.shape?,h]
 have e5:Sem.run Tryz.prog (viewAt b) X=.ok none X:=by unfold viewAt;simp[World.shape?,h]
 unfold partAt byteOf noView;simp[e5,e4,Result.andThen];simp[e1,e2];rw[e5];simp only[Option.isSome_none,Bool.false_eq_true,sG];rw[e4];simp[e1,e3]
end jw.ed
namespace jw.ed
open Go.Shelf
open ks (af ae hlt ah bC alloc_old aG aX aT dp KP pZ eS DM DE bu TabIs ptr fJ lq e9 fI rA)
open sd (AmR lH)
attribute [local go_sem] Oper.semAt_some
theorem iI {X:World}:∀ {l1 l2:List (DE Unit)} {e:DE Unit},e9 dty X (l1++e::l2)→X.cell? ⟨e.b,0,none⟩=some (.string e.k)∧X.cell? ⟨e.b,1,none⟩=some (ptr l2)
 | [],l2,e,h=>by have h1:=h.1;unfold ks.gG at h1;exact⟨by rw[ah h1];rfl,by rw[ah h1];rfl⟩
 | x::l1,l2,e,h=>iI h.2
theorem Bw:(Tryz.prog.info? 176).map (fun i=>(i.zero,i.size,i.bytes))=some (some (.agg #[]),0,0):=by kernel_rfl
theorem zl (db:Nat) (W:World):
  Calls Tryz.prog 366 #[dp db] W fun r w'=>r=.returned (.func (.func 374) #[] #[dp W.heap.size])∧w'=W.alloc (.cells #[dp db] 174):=by
 unfold dp;go_enter Tryz.func366,Tryz.ntmps366
 go_wp2_with fail
 go_ret;exact⟨rfl,rfl⟩
theorem wO (db:Nat) (W:World):
  Calls Tryz.prog 365 #[dp db] W fun r w'=>r=.returned (.func (.func 373) #[] #[dp W.heap.size])∧w'=W.alloc (.cells #[dp db] 174):=by
 unfold dp;go_enter Tryz.func365,Tryz.ntmps365
 go_wp2_with fail
 go_ret;exact⟨rfl,rfl⟩
set_option maxRecDepth 8000 in
theorem LM (n cx db:Nat) (D:DM Unit) (W:World) (hn:4≤n) (hcx:W.cell? ⟨cx,0,none⟩=some (dp db)) (hD:D.WF) (h:bu dty W db D):
  pZ (α:=DE Unit) Fence.wide n Tryz.prog 373 #[dp cx] (fun e=>#[.string e.k,.agg #[]]) D.all (fun _=>False) W:=by
 intro l J G0 H0 hJ hY h0 hG hH;have h1:1≤n:=by omega
 have hcl:cx<W.heap.size:=du W _ hcx;obtain⟨i9,hi9,iV,iA,im⟩:=cF qc;obtain⟨i0,hi0,hz0,hs0,Oa⟩:=cF Bw;have HJ:=ae hJ;have HY:=ae hY;have H:=ae h;have VT:=ae h;have ZG:=ae h0;have se:=ae (fun X=>zl db X);clear h h0 hJ hY;unfold dp at hcx se ⊢;refine iW Tryz.func373 rfl trivial ?_ rfl;simp only[Tryz.ntmps373,cJ,List.length_cons,List.length_nil,Nat.reduceAdd,Nat.reduceSub,fv,Array.replicate_zero,gd,fF,List.nil_append,List.cons_append]
 gi_wp2_with (refine⟨trivial,?_⟩;gi_at_call 366;refine(fw.2 (se.out _)).mono ?_;rintro e w' ⟨rfl,rfl⟩)
 have hz:(((W.alloc (.cells #[.slice none 0 0] 32)).alloc (.cells #[.slice none 0 0] 446)).alloc (.cells #[dp db] 174)).heap.size=W.heap.size+3:=by simp
 have hk0:af [] W (((W.alloc (.cells #[.slice none 0 0] 32)).alloc (.cells #[.slice none 0 0] 446)).alloc (.cells #[dp db] 174)):=(((af.refl _ W).alloc _).alloc _).alloc _;have hb0:(((W.alloc (.cells #[.slice none 0 0] 32)).alloc (.cells #[.slice none 0 0] 446)).alloc (.cells #[dp db] 174)).heap[W.heap.size]?=some (qn (.slice none 0 0)):=alloc_old _ (alloc_old _ (aG _ _))
 have hb1:(((W.alloc (.cells #[.slice none 0 0] 32)).alloc (.cells #[.slice none 0 0] 446)).alloc (.cells #[dp db] 174)).heap[W.heap.size+1]?=some (OE (.slice none 0 0)):=by have:=aG (W.alloc (.cells #[.slice none 0 0] 32)) (.cells #[.slice none 0 0] 446);rw[de] at this;exact alloc_old _ this
 have hb2:(((W.alloc (.cells #[.slice none 0 0] 32)).alloc (.cells #[.slice none 0 0] 446)).alloc (.cells #[dp db] 174)).heap[W.heap.size+1+1]?=some (.cells #[dp db] 174 (0,0)):=by have:=aG ((W.alloc (.cells #[.slice none 0 0] 32)).alloc (.cells #[.slice none 0 0] 446)) (.cells #[dp db] 174);rw[de,de] at this;exact this
 unfold dp at hz hk0 hb0 hb1 hb2;generalize ((W.alloc (.cells #[.slice none 0 0] 32)).alloc (.cells #[.slice none 0 0] 446)).alloc (.cells #[.pointer (some ⟨db,0,none⟩)] 174)=W2 at *
 have ME:=ae hk0;have c2:W2.cell? ⟨W.heap.size+1+1,0,none⟩=some (.pointer (some ⟨db,0,none⟩)):=by rw[ah hb2];rfl
 have FF:=ae (show ∀ X Y,(bu dty X db D∧J [] G0 H0 X)→KP (fun b=>G0 b∨b∈D.blocks db) X Y→(bu dty Y db D∧J [] G0 H0 Y) from fun X Y hx hk=>⟨hx.1.bY (fun b hb=>hk.block b (hx.1.lt b hb) (.inr hb)),HJ.out _ _ _ _ _ hx.2 (hk.mono (fun b _ hb=>.inl hb))⟩)
 have S6:=ae (show ∀ b,(G0 b∨b∈D.blocks db)→b<W.heap.size from fun b hb=>by
  rcases hb with hb|hb
  ·exact hG b hb
  ·exact H.out.lt b hb)
 refine fI (α:=List (DE Unit)) (xs:=D.old.drop D.cur++D.aW) (Rd:=fun b=>b=W.heap.size+1+1∨b∈D.blocks db) (encs:=fun l=>#[ptr l]) rfl h1 (gf:=374) (lb:=#[dp (W.heap.size+1+1)]) rfl trivial (enters_of (c:=_) Tryz.func374 (by kernel_rfl) rfl)
  (fun W' hk=>SH (n-1) _ db D W' (by omega) (kZ hk c2) hD ((H.out.keeps hk0 (by simp)).keeps (hk.keeps (bs:=[]) (fun _ _ _=>trivial)) (by simp))) (fun _=>rfl)
  (fun pre G H X=>∃ kv vv,EzI W.heap.size W.heap.size (W.heap.size+1) (fun b=>G0 b∨b∈D.blocks db) (fun X=>bu dty X db D∧J [] G0 H0 X) (pre.flatten.map (fun e=>e.k)) pre.flatten.length G H X kv vv)
  (fun b=>(G0 b∨b∈D.blocks db)∨b=W.heap.size∨b=W.heap.size+1) (fun b=>b=W.heap.size∨b=W.heap.size+1) ?hI ?h0 ?hG ?hH ?a1 ?assign ?body ?done
 case assign=>
  intro l x X K hK
  gi_wp2
  exact hK
 case hI=>rintro pre G H A B ⟨kv,vv,h1⟩ hk;exact⟨kv,vv,h1.lW FF.out hk⟩
 case h0=>
  refine⟨.slice none 0 0,.slice none 0 0,hb0,hb1,bF.nil _ _ _ _ _,.inl ⟨rfl,rfl⟩,⟨H.out.keeps hk0 (by simp),HJ.out _ _ _ _ _ ZG.out (KP.il hk0 (fun _ _ _=>by simp))⟩,?_,fun b hb=>.inl hb,?_,?_⟩
  ·rintro b (rfl|rfl)<;>omega
  ·rintro b (rfl|rfl|hb)
   ·exact .inr (.inl rfl)
   ·exact .inr (.inr rfl)
   ·simp[Value.ownBlock] at hb
  ·rintro b (rfl|rfl|hb)
   ·exact .inl rfl
   ·exact .inr rfl
   ·simp[Value.ownBlock] at hb
 case hG=>
  rintro b (hb|rfl|rfl)
  ·have:=S6.out b hb;omega
  ·omega
  ·omega
 case hH=>
  rintro b (rfl|rfl)
  ·refine⟨by omega,fun hb=>?_⟩
   rcases hb with hb|hb
   ·omega
   ·have:=H.out.lt _ hb;omega
  ·refine⟨by omega,fun hb=>?_⟩
   rcases hb with hb|hb
   ·omega
   ·have:=H.out.lt _ hb;omega
 case body=>
  rintro l pre x rest G H X hx ⟨kv,vv,hI⟩;have hall:=rE hD;rw[hx] at hall;have hlen:=congrArg List.length hall;rw[iX,List.flatten_cons,aM,aM,←hD.n] at hlen
  have hxm:x∈D.old∨x∈D.aW:=by
   have:x∈D.old.drop D.cur++D.aW:=by rw[hx];simp
   rcases bj.1 this with h|h
   ·exact .inl (kj h)
   ·exact .inr h
  have zB:=ae (show ∀ Y,bu dty Y db D→e9 dty Y x from fun Y hY=>by
   rcases hxm with h|h
   ·exact hY.ho.ch x h
   ·exact hY.hy.ch x h)
  have HI:=ae hI;have HLEN:=ae hlen;have SV:=ae hx;have hDn:=VT.out.bn;clear hI hlen hall hxm hx
  try dsimp only
  generalize hpx:ptr x=px
  have Vy:=ae hpx;clear hpx
  gi_wp2
  gi_loopg [5] x.length (fun g p Y=>∃ l1 l2,p=ptr l2∧Hid (x=l1++l2∧l2.length=g∧∃ kv vv,EzS W.heap.size W.heap.size (W.heap.size+1) (fun b=>G0 b∨b∈D.blocks db) (fun X=>bu dty X db D∧J [] G0 H0 X) (pre.flatten.map (fun e=>e.k)++l1.map (fun e=>e.k)) (pre.flatten.length+l1.length) G H X Y kv vv))
  case atStart=>exact⟨[],x,Vy.out.symm,ae ⟨rfl,rfl,kv,vv,by simpa using EzS.start HI.out⟩⟩
  case round=>
   obtain⟨l1,l2,rfl,HV⟩:=hrel;obtain⟨hxl,hg2,WK,Ww,hE⟩:=HV.out
   cases l2 with
   | nil=>
    unfold ptr;have HE:=ae hE;have Jh:=ae hxl;clear hE hxl
    gi_wp2
    obtain⟨⟨G2,H2,hI2,hg2,Ff⟩,hk2⟩:=HE.out;rw[cZ] at Jh;rw[←Jh.out] at hI2;refine⟨G2,H2,⟨WK,Ww,?_⟩,hg2,Ff,hk2⟩;rw[iX,List.flatten_cons,List.flatten_nil,cZ,aZ,aM];exact hI2
   | cons e r=>
    obtain⟨⟨G1,H1,hI1,_,_⟩,_⟩:=id hE;have hch:=zB.out _ hI1.r.1;rw[hxl] at hch;obtain⟨Vg,Tv⟩:=iI hch;obtain⟨ka,rl,hkv,_,_,_,_⟩:=hI1.kr.form;have Dl:=congrArg List.length hxl;rw[aM,List.length_cons] at Dl;have hln:=HLEN.out;have hks:(pre.flatten.map (fun e=>e.k)++l1.map (fun e=>e.k)).length=pre.flatten.length+l1.length:=by rw[aM,aU,aU]
    rw[hks] at hkv;obtain⟨kn,hkn⟩:∃ kn,kn=pre.flatten.length+l1.length:=⟨_,rfl⟩;rw[←hkn] at hkv hks;have hm1:kn+1≤maxLen:=by unfold maxLen;omega
    have hm2:(kn+1)*16≤140737488355328:=by omega
    have MA:=ae hks.symm;have MC:=ae hkn;subst hkv;have HE:=ae hE;have xD:=ae hxl;have zu:=ae hg2;have hbk:=hlt hI1.k;have uJ:W.heap.size≤wr.drew.heap.size:=by show W.heap.size≤wr.heap.size;omega
    have ck:wr.cell? ⟨W.heap.size,0,none⟩=some (.slice ka kn rl):=by rw[ah hI1.k];rfl
    have YU:(wr.alloc (.cells #[.string e.k] 9)).cell? ⟨W.heap.size,0,none⟩=some (.slice ka kn rl):=kZ ((KP.refl _ _).alloc _) ck;have fN:=ae (show bF b9 1 9 W.heap.size wr.drew (.slice ka kn rl) (pre.flatten.map (fun e=>e.k)++l1.map (fun e=>e.k)) from hI1.kr.bY (fun _ _=>rfl));have kN:=MA;have fC:=ae (fun g cap w5 (hp:eW b9 1 9 W.heap.size wr.drew w5 (.slice ka kn rl) (pre.flatten.map (fun e=>e.k)++l1.map (fun e=>e.k)) e.k g kn cap)=>hE.pk FF.out S6.out (by omega) hp);clear hE hI1 hch hxl hks hg2 Dl hln HI Tv hkn;unfold ptr
    gi_wp2
    gi_cut [] from 49 (fun Y=>Hid (∃ kv' Wx,EzS W.heap.size W.heap.size (W.heap.size+1) (fun b=>G0 b∨b∈D.blocks db) (fun X=>bu dty X db D∧J [] G0 H0 X) ((pre.flatten.map (fun e=>e.k)++l1.map (fun e=>e.k))++[e.k]) (pre.flatten.length+l1.length) G H X Y kv' Wx))
    case first=>
      refine lJ (by kernel_rfl) (by rintro⟨a,w,h⟩;exact h) (by kernel_rfl) ?_;refine bV (i:=1) (v:=?v1) rfl (by kernel_rfl) (by kernel_rfl) (by kernel_rfl) (fun _ _ _ h=>h) (Or.inl ⟨by rfl,?hy1⟩) ?CM
      case hy1=>intro w;go_simp;first|done|with_reducible rfl
      case CM=>
       refine bV (i:=2) (v:=?v2) rfl (by kernel_rfl) (by kernel_rfl) (by kernel_rfl) (fun _ _ _ h=>h) (Or.inl ⟨by rfl,?hy2⟩) ?CL
       case hy2=>intro w;go_simp;first|done|with_reducible rfl
       case CL=>
        refine bV (i:=3) (v:=?v3) rfl (by kernel_rfl) (by kernel_rfl) (by kernel_rfl) (fun _ _ _ h=>h) (Or.inl ⟨by rfl,?hy3⟩) ?CJ
        case hy3=>intro w;go_simp;first|done|with_reducible rfl
        case CJ=>
         refine aO (rs:=[0,4]) (by kernel_rfl) (by simp) ?_;refine aC rfl (fun K hK=>?_) ?_
         ·go_simp;refine hK _ _ ?_;clear hK K;refine aO (rs:=[4]) (by kernel_rfl) (by simp) ?_;refine aC rfl (fun K hK=>?_) ?_
          ·go_simp;refine hK _ _ ?_;clear hK K;refine aO (rs:=[5]) (by kernel_rfl) (by simp) ?_;refine aC rfl (fun K hK=>?_) ?_
           ·go_simp;refine hK _ _ ?_;clear hK K;refine aO (rs:=[6]) (by kernel_rfl) (by simp) ?_;refine aC rfl (fun K hK=>?_) ?_
            ·refine ei rfl _ _ 32 rfl b9 1 9 W.heap.size i9 (.string ByteArray.empty) 16 Tryz.underlying32 hi9 iV iA im rfl dR (.slice ka kn rl) kn _ e.k rfl fN.out kN.out 9 rfl 1 rfl hm1 hm2 uJ ?_;intro g cap w5 hp;obtain⟨⟨u5,o5⟩,f5,hfin⟩:=fC.out g cap w5 hp;have HF:=ae hfin;clear hp hfin;refine hK _ _ ?_;clear hK K;refine aO (rs:=[7]) (by kernel_rfl) (by simp) ?_;refine aC rfl (fun K hK=>?_) ?_
             ·go_simp;refine hK _ _ ?_;clear hK K;refine dH (by kernel_rfl) ?_ _
              gi_wp2;gi_meet;exact ae ⟨_,_,HF.out⟩
             exact aH
            exact aH
           exact aH
          exact aH
         refine aC rfl (fun K hK=>?_) ?_
         ·go_simp;refine hK _ _ ?_;clear hK K;refine aO (rs:=[0,5]) (by kernel_rfl) (by simp) ?_;refine aC rfl (fun K hK=>?_) ?_
          ·go_simp;refine hK _ _ ?_;clear hK K;refine aO (rs:=[5]) (by kernel_rfl) (by simp) ?_;refine aC rfl (fun K hK=>?_) ?_
           ·go_simp;refine hK _ _ ?_;clear hK K;refine aO (rs:=[6]) (by kernel_rfl) (by simp) ?_;refine aC rfl (fun K hK=>?_) ?_
            ·refine ei rfl _ _ 32 rfl b9 1 9 W.heap.size i9 (.string ByteArray.empty) 16 Tryz.underlying32 hi9 iV iA im rfl dR (.slice ka kn rl) kn _ e.k rfl fN.out kN.out 9 rfl 1 rfl hm1 hm2 uJ ?_;intro g cap w5 hp;obtain⟨⟨u5,o5⟩,f5,hfin⟩:=fC.out g cap w5 hp;have HF:=ae hfin;clear hp hfin;refine hK _ _ ?_;clear hK K;refine aO (rs:=[7]) (by kernel_rfl) (by simp) ?_;refine aC rfl (fun K hK=>?_) ?_
             ·go_simp;refine hK _ _ ?_;clear hK K;refine dH (by kernel_rfl) ?_ _
              gi_wp2;gi_meet;exact ae ⟨_,_,HF.out⟩
             exact aH
            exact aH
           exact aH
          refine aC rfl (fun K hK=>?_) ?_
          ·go_simp;refine hK _ _ ?_;clear hK K;refine aO (rs:=[0]) (by kernel_rfl) (by simp) ?_;refine aC rfl (fun K hK=>?_) ?_
           ·go_simp;refine hK _ _ ?_;clear hK K;refine aO (rs:=[6]) (by kernel_rfl) (by simp) ?_;refine aC rfl (fun K hK=>?_) ?_
            ·refine ei rfl _ _ 32 rfl b9 1 9 W.heap.size i9 (.string ByteArray.empty) 16 Tryz.underlying32 hi9 iV iA im rfl dR (.slice ka kn rl) kn _ e.k rfl fN.out kN.out 9 rfl 1 rfl hm1 hm2 uJ ?_;intro g cap w5 hp;obtain⟨⟨u5,o5⟩,f5,hfin⟩:=fC.out g cap w5 hp;have HF:=ae hfin;clear hp hfin;refine hK _ _ ?_;clear hK K;refine aO (rs:=[7]) (by kernel_rfl) (by simp) ?_;refine aC rfl (fun K hK=>?_) ?_
             ·go_simp;refine hK _ _ ?_;clear hK K;refine dH (by kernel_rfl) ?_ _
              gi_wp2;gi_meet;exact ae ⟨_,_,HF.out⟩
             exact aH
            exact aH
           exact aH
          exact aH
         exact aH
    case rest=>
     obtain⟨kv3,vv3,hE⟩:=hcut.out;rw[←MC.out] at hE;obtain⟨⟨G1,H1,hI1,_,_⟩,_⟩:=id hE;have hch:=zB.out _ hI1.r.1;rw[xD.out] at hch;obtain⟨Vg,Tv⟩:=iI hch;have hzz:=hI1.vr;obtain⟨va,fD,hvv,_⟩:=hzz.form;subst hvv;have HZ:=ae hzz;have hm0:kn+1≤9223372036854775807:=by unfold maxLen at hm1;omega
     have kK:=ae ((af.refl [] wc).alloc (.cells #[] 176));have ck:wc.cell? ⟨W.heap.size+1,0,none⟩=some (.slice va kn fD):=by rw[ah hI1.v];rfl
     have YU:∀ o,(wc.alloc o).cell? ⟨W.heap.size+1,0,none⟩=some (.slice va kn fD):=fun o=>kZ ((KP.refl _ _).alloc _) ck
     have fC:=ae (fun v' w5 (hz:ZOk v' (kn+1)) (hk:af [] wc w5)=>hE.pv FF.out S6.out (by omega) hz hk);obtain⟨q,hq⟩:=ks.sw r;have HQ:=ae hq
     have pX:=ae (show ∀ Y kv vv,EzS W.heap.size W.heap.size (W.heap.size+1) (fun b=>G0 b∨b∈D.blocks db) (fun X=>bu dty X db D∧J [] G0 H0 X) ((pre.flatten.map (fun e=>e.k)++l1.map (fun e=>e.k))++[e.k]) (kn+1) G H X Y kv vv→Y.cell? ⟨e.b,1,none⟩=some (.pointer q) from fun Y kv vv hY=>by
      obtain⟨⟨G2,H2,hI2,_,_⟩,_⟩:=hY;have hch:=zB.out _ hI2.r.1;rw[xD.out] at hch;rw[←HQ.out]
      exact(iI hch).2)
     have Wo:=ae (show pre.flatten.length+(l1++[e]).length=kn+1 by rw[MC.out,aM];rfl);have hed:=ks.e9.get hch;unfold ks.gG at hed;have hpa:=CW e.b _ wc hed;have abP:=CW e.b _ wc.drew (show wc.drew.heap[e.b]?=_ from hed);clear hE hI1 hch Vg Tv hq hcut hzz hed
     gi_wp2
     refine lJ (by kernel_rfl) (by rintro⟨a,w,h⟩;exact h) (by kernel_rfl) ?_;refine bV (i:=1) (v:=?vb1) rfl (by kernel_rfl) (by kernel_rfl) (by kernel_rfl) (fun _ _ _ h=>h) (Or.inl ⟨by rfl,?RI⟩) ?Ez
     case RI=>intro w;go_simp;first|done|with_reducible rfl
     case Ez=>
      refine bV (i:=2) (v:=?vb2) rfl (by kernel_rfl) (by kernel_rfl) (by kernel_rfl) (fun _ _ _ h=>h) (Or.inl ⟨by rfl,?RH⟩) ?Ey
      case RH=>intro w;go_simp;first|done|with_reducible rfl
      case Ey=>
       refine aO (rs:=[0,3]) (by kernel_rfl) (by simp) ?_;refine aC rfl (fun K hK=>?_) ?_
       ·go_simp;refine hK _ _ ?_;clear hK K;refine aO (rs:=[3]) (by kernel_rfl) (by simp) ?_;refine aC rfl (fun K hK=>?_) ?_
        ·go_simp;refine hK _ _ ?_;clear hK K;refine aO (rs:=[4]) (by kernel_rfl) (by simp) ?_;refine aC rfl (fun K hK=>?_) ?_
         ·go_simp;refine hK _ _ ?_;clear hK K;refine aO (rs:=[5]) (by kernel_rfl) (by simp) ?_;refine aC rfl (fun K hK=>?_) ?_
          ·go_simp;refine hK _ _ ?_;clear hK K;refine aO (rs:=[6]) (by kernel_rfl) (by simp) ?_;refine aC rfl (fun K hK=>?_) ?_
           ·refine AV rfl _ _ 446 rfl 176 i0 (.agg #[]) Tryz.underlying446 hi0 hz0 hs0 Oa rfl (.slice va kn fD) kn rfl HZ.out hm0 _ _ rfl ?_;intro v' w5 hz' hk5;obtain⟨Wy,Ju,rfl,_⟩:=hz'.form;obtain⟨⟨u5,o5⟩,f5,hfin⟩:=fC.out _ w5 hz' (by first|exact(kK.out.drew).trans hk5|exact kK.out.trans hk5);have HF:=ae hfin;have cn:=pX.out _ _ _ hfin;clear hfin hz' hk5;refine hK _ _ ?_;clear hK K;refine aO (rs:=[7]) (by kernel_rfl) (by simp) ?_;refine aC rfl (fun K hK=>?_) ?_
            ·go_simp;refine hK _ _ ?_;clear hK K;refine dH (by kernel_rfl) ?_ _
             gi_wp2
             gi_roundg r.length
             case measure=>have:=zu.out;simp at this;omega
             case rel=>exact⟨l1++[e],r,HQ.out.symm,ae ⟨by rw[xD.out];simp,rfl,_,_,by rw[aZ,←aD,Wo.out];exact HF.out⟩⟩
            exact aH
           exact aH
          exact aH
         exact aH
        exact aH
       refine aC rfl (fun K hK=>?_) ?_
       ·go_simp;refine hK _ _ ?_;clear hK K;refine aO (rs:=[0,4]) (by kernel_rfl) (by simp) ?_;refine aC rfl (fun K hK=>?_) ?_
        ·go_simp;refine hK _ _ ?_;clear hK K;refine aO (rs:=[4]) (by kernel_rfl) (by simp) ?_;refine aC rfl (fun K hK=>?_) ?_
         ·go_simp;refine hK _ _ ?_;clear hK K;refine aO (rs:=[5]) (by kernel_rfl) (by simp) ?_;refine aC rfl (fun K hK=>?_) ?_
          ·go_simp;refine hK _ _ ?_;clear hK K;refine aO (rs:=[6]) (by kernel_rfl) (by simp) ?_;refine aC rfl (fun K hK=>?_) ?_
           ·refine AV rfl _ _ 446 rfl 176 i0 (.agg #[]) Tryz.underlying446 hi0 hz0 hs0 Oa rfl (.slice va kn fD) kn rfl HZ.out hm0 _ _ rfl ?_;intro v' w5 hz' hk5;obtain⟨Wy,Ju,rfl,_⟩:=hz'.form;obtain⟨⟨u5,o5⟩,f5,hfin⟩:=fC.out _ w5 hz' (by first|exact(kK.out.drew).trans hk5|exact kK.out.trans hk5);have HF:=ae hfin;have cn:=pX.out _ _ _ hfin;clear hfin hz' hk5;refine hK _ _ ?_;clear hK K;refine aO (rs:=[7]) (by kernel_rfl) (by simp) ?_;refine aC rfl (fun K hK=>?_) ?_
            ·go_simp;refine hK _ _ ?_;clear hK K;refine dH (by kernel_rfl) ?_ _
             gi_wp2
             gi_roundg r.length
             case measure=>have:=zu.out;simp at this;omega
             case rel=>exact⟨l1++[e],r,HQ.out.symm,ae ⟨by rw[xD.out];simp,rfl,_,_,by rw[aZ,←aD,Wo.out];exact HF.out⟩⟩
            exact aH
           exact aH
          exact aH
         exact aH
        refine aC rfl (fun K hK=>?_) ?_
        ·go_simp;refine hK _ _ ?_;clear hK K;refine aO (rs:=[0,5]) (by kernel_rfl) (by simp) ?_;refine aC rfl (fun K hK=>?_) ?_
         ·go_simp;refine hK _ _ ?_;clear hK K;refine aO (rs:=[5]) (by kernel_rfl) (by simp) ?_;refine aC rfl (fun K hK=>?_) ?_
          ·go_simp;refine hK _ _ ?_;clear hK K;refine aO (rs:=[6]) (by kernel_rfl) (by simp) ?_;refine aC rfl (fun K hK=>?_) ?_
           ·refine AV rfl _ _ 446 rfl 176 i0 (.agg #[]) Tryz.underlying446 hi0 hz0 hs0 Oa rfl (.slice va kn fD) kn rfl HZ.out hm0 _ _ rfl ?_;intro v' w5 hz' hk5;obtain⟨Wy,Ju,rfl,_⟩:=hz'.form;obtain⟨⟨u5,o5⟩,f5,hfin⟩:=fC.out _ w5 hz' (by first|exact(kK.out.drew).trans hk5|exact kK.out.trans hk5);have HF:=ae hfin;have cn:=pX.out _ _ _ hfin;clear hfin hz' hk5;refine hK _ _ ?_;clear hK K;refine aO (rs:=[7]) (by kernel_rfl) (by simp) ?_;refine aC rfl (fun K hK=>?_) ?_
            ·go_simp;refine hK _ _ ?_;clear hK K;refine dH (by kernel_rfl) ?_ _
             gi_wp2
             gi_roundg r.length
             case measure=>have:=zu.out;simp at this;omega
             case rel=>exact⟨l1++[e],r,HQ.out.symm,ae ⟨by rw[xD.out];simp,rfl,_,_,by rw[aZ,←aD,Wo.out];exact HF.out⟩⟩
            exact aH
           exact aH
          exact aH
         refine aC rfl (fun K hK=>?_) ?_
         ·go_simp;refine hK _ _ ?_;clear hK K;refine aO (rs:=[0]) (by kernel_rfl) (by simp) ?_;refine aC rfl (fun K hK=>?_) ?_
          ·go_simp;refine hK _ _ ?_;clear hK K;refine aO (rs:=[6]) (by kernel_rfl) (by simp) ?_;refine aC rfl (fun K hK=>?_) ?_
           ·refine AV rfl _ _ 446 rfl 176 i0 (.agg #[]) Tryz.underlying446 hi0 hz0 hs0 Oa rfl (.slice va kn fD) kn rfl HZ.out hm0 _ _ rfl ?_;intro v' w5 hz' hk5;obtain⟨Wy,Ju,rfl,_⟩:=hz'.form;obtain⟨⟨u5,o5⟩,f5,hfin⟩:=fC.out _ w5 hz' (by first|exact(kK.out.drew).trans hk5|exact kK.out.trans hk5);have HF:=ae hfin;have cn:=pX.out _ _ _ hfin;clear hfin hz' hk5;refine hK _ _ ?_;clear hK K;refine aO (rs:=[7]) (by kernel_rfl) (by simp) ?_;refine aC rfl (fun K hK=>?_) ?_
            ·go_simp;refine hK _ _ ?_;clear hK K;refine dH (by kernel_rfl) ?_ _
             gi_wp2
             gi_roundg r.length
             case measure=>have:=zu.out;simp at this;omega
             case rel=>exact⟨l1++[e],r,HQ.out.symm,ae ⟨by rw[xD.out];simp,rfl,_,_,by rw[aZ,←aD,Wo.out];exact HF.out⟩⟩
            exact aH
           exact aH
          exact aH
         exact aH
        exact aH
       exact aH
 case done=>
  rintro Dd G H X YH ⟨kv,vv,hI⟩ Oe hk hd;rw[rE hD] at hI;obtain⟨ka,rl,hkv,_,_,_,hka⟩:=hI.kr.form;obtain⟨va,fD,hvv,hva⟩:=hI.vr.form;rw[aU] at hkv hka;have Tt:=hlt hd;have hall:=hD.n;have hbn:=VT.out.bn
  have MD:=ae (show ∀ Y,KP (fun b=>¬H0 b) X Y→bF b9 1 9 W.heap.size Y kv (D.all.map (fun e=>e.k))∧Y.heap[W.heap.size+1]?=some (OE vv) from fun Y hY=>by
   have hlo:∀ b,W.heap.size≤b→¬H0 b:=fun b hb hc=>by have:=(hH b hc).1;omega
   exact⟨hI.kr.bY (fun b hb=>hY.block b (hI.kr.lt b hb).2 (hlo b (hI.kr.lt b hb).1)),(hY.block _ (hlt hI.v) (hlo _ (by omega))).trans hI.v⟩)
  obtain⟨m,hm⟩:∃ m,D.all.length=m:=⟨_,rfl⟩;rw[hm] at hkv hvv hka hva;have hmb:m≤8796093022208:=by omega
  have ck:X.cell? ⟨W.heap.size,0,none⟩=some (.slice ka m rl):=by rw[ah hI.k,hkv];rfl
  have ZW:=ae (show ∀ Y,KP (fun b=>¬H0 b) X Y→∀ i e,D.all[i]?=some e→∃ g h,ka=some ⟨g,0,none⟩∧va=some ⟨h,0,none⟩∧Y.cell? ⟨g,i,none⟩=some (.string e.k)∧Y.cell? ⟨W.heap.size+1,0,none⟩=some (.slice va m fD) from fun Y hY i e he=>by
   obtain⟨r1,r3⟩:=MD.out Y hY;have hpos:0<m:=by have:=(au.1 he).1;omega
   obtain⟨g,hg⟩:=hka hpos;obtain⟨h,hh⟩:=hva hpos;rw[hkv,hg] at r1;refine⟨g,h,hg,hh,?_,by rw[ah r3,hvv];rfl⟩;have:=bF.cell (enc:=b9) (fun _=>rfl) r1 (i:=i) (x:=e.k) (by rw[bK,he];rfl) (j:=0) (u:=.string e.k) rfl
   rwa [bB,Nat.add_zero] at this)
  have Ea:Hid (AmR J G0 H0 X D.all 0 X):=ae ⟨⟨G0,H0,hI.r.2,fun b hb=>.inl hb,fun b hb=>.inl hb⟩,KP.refl _ _⟩;have HK:=ae hk;have HHX:=ae Oe;have xX:=ae hd;have HM:=ae hm;clear hI hkv hvv hka hva hk Oe hd hm hall hbn
  gi_wp2
  gi_loopw [35,6,7] (fun i _ _ Y=>∃ k:Nat,i=.int .i64 (k:Int)∧k≤m∧Hid (AmR J G0 H0 X D.all k Y)) (fun i _ _ _=>m-(intOf i).toNat)
  case atStart=>exact⟨0,rfl,bz _,Ea⟩
  case round=>
   obtain⟨k,rfl,hk,HV⟩:=hrel;clear ck
   by_cases hlt:k<m
   ·obtain⟨e,he⟩:∃ e,D.all[k]?=some e:=⟨_,ag (by rw[HM.out];exact hlt)⟩;obtain⟨g,h,rfl,rfl,d1,d2⟩:=ZW.out wr HV.out.kp k e he;have hkn:(k:Int)<(m:Int):=by omega
    obtain⟨⟨G1,H1,hjj,hgg,xQ⟩,hkp⟩:=HV.out;obtain⟨fn,tmps,assign,body,hy,hR⟩:=HY.out _ _ _ G1 H1 wr (lH he) hjj;have ZM:=ae hgg;have Cs:=ae xQ;have FH:=ae hkp;have Mv:=ae he;have HR:=ae hR;clear hgg xQ hkp he hjj hR
    gi_wp2
    refine HR.out.mono ?_;rintro e2 W3 ⟨rfl,hr⟩;have I:Hid (AmR J G0 H0 X D.all (k+1) W3):=ae (sd.AmR.step FH.out ZM.out Cs.out Mv.out hr);clear hr hy d1 d2
    gi_wp2
    refine⟨⟨k+1,rfl,by omega,I⟩,?_⟩;simp[intOf];omega
   ·obtain rfl:k=m:=by omega
    gi_wp2
    obtain⟨⟨G1,H1,hjj,hgg,xQ⟩,hkp⟩:=HV.out;have hlo:¬H0 Dd:=fun hc=>by have:=(hH Dd hc).1;omega
    have hd3:wr.heap[Dd]?=some (.deferred (some [])):=(hkp.block Dd Tt hlo).trans xX.out;refine⟨by simp,.inl ⟨_,_,rfl,ky hd3,?_⟩⟩;rw[aE (by rw[HM.out];exact aq _)] at hjj;refine⟨_,kz rfl _ _ _,⟨_,rfl⟩,G1,H1,?_,fun b hb=>(xQ b hb).imp id (fun h=>by have:=HK.out.size;omega),?_⟩
    ·refine HJ.out _ _ _ _ _ hjj ((KP.refl _ _).putObj (fun hc=>?_) _)
     rcases hgg Dd hc.2 with h2|h2
     ·have:=hG Dd h2;omega
     ·omega
    ·have k1:KP (fun b=>¬H0 b) W X:=(KP.il ME.out (fun _ _ _=>by simp)).uU HK.out (fun b hb _ hc=>by omega);exact(k1.trans hkp).putObj (fun hc=>by omega) _
end jw.ed
namespace jw.ed
open ks (af ae hlt ah bC alloc_old aG aX aT dp DM DE bu TabIs ptr fJ lq)
structure nO (B:Nat) (w:World) (rb db:Nat) (D:DM Unit) (cost:Nat) (ps:List ByteArray):Prop where
 hd:w.heap[rb]?=some (.cells #[.int .u64 (D.seed:Int),dp db,.int .i64 (cost:Int)] 178 (0,0))
 d:bu dty w db D
 wf:D.WF
 lo:∀ b∈D.blocks db,B≤b
 b:B≤rb
 ne:rb∉D.blocks db
 all:(D.all.map (fun e=>e.k)).Perm ps
 cost:cost≤2097152*ps.length
theorem nO.n {B:Nat} {w:World} {rb db:Nat} {D:DM Unit} {cost:Nat} {ps:List ByteArray} (h:nO B w rb db D cost ps):D.n=ps.length:=by rw[h.wf.n,←h.all.length_eq,aU]
theorem nO.aN {B:Nat} {w w':World} {rb db:Nat} {D:DM Unit} {cost:Nat} {ps:List ByteArray} (h:nO B w rb db D cost ps) (hk:af [] w w'):nO B w' rb db D cost ps:=⟨hk.get h.hd (by simp),h.d.keeps hk (by simp),h.wf,h.lo,h.b,h.ne,h.all,h.cost⟩
theorem nO.new {B:Nat} {w:World} {rb db:Nat} {D:DM Unit} {cost:Nat} {ps:List ByteArray} (h:nO B w rb db D cost ps) {k:ByteArray} (hk:∀ p∈ps,p≠k):∀ e∈D.all,e.k≠k:=fun e he=>hk e.k (h.all.mem_iff.1 (aV.2 ⟨e,he,rfl⟩))
theorem LS (seed:Nat) (w:World):Calls Tryz.prog 101 #[.int .u64 (seed:Int)] w fun r w'=>r=.returned (dp w.heap.size)∧w.alloc (lq dty (DM.new seed))=w':=by
 unfold dp;go_enter Tryz.func101,Tryz.ntmps101
 go_wp2
 go_ret;exact⟨rfl,rfl⟩
theorem zc {w:World} (seed:Nat) (hs:seed<18446744073709551616):bu dty (w.alloc (lq dty (DM.new seed))) w.heap.size (DM.new seed):=⟨aG w _,TabIs.nil _ _,TabIs.nil _ _,by simp[DM.blocks,DM.new,ks.cg],hs,by simp[DM.all,DM.new],by simp[DM.new],by simp[DM.new],by simp[DM.new]⟩
theorem Sk (seed:Nat) (w:World) (hs:seed<18446744073709551616):Calls Tryz.prog 58 #[.int .u64 (seed:Int)] w fun r w'=>r=.returned (dp (w.heap.size+1))∧nO w.heap.size w' (w.heap.size+1) w.heap.size (DM.new seed) 0 []∧af [] w w':=by
 have HN:=ae (LS seed w);unfold dp at HN;go_enter Tryz.func58,Tryz.ntmps58
 go_wp2_with fail
 refine HN.out.mono ?_;rintro r w1 ⟨rfl,hw1⟩;have hz:w1.heap.size=w.heap.size+1:=by rw[←hw1];simp
 have hd:bu dty w1 w.heap.size (DM.new seed):=by rw[←hw1];exact zc seed hs
 have hk:af [] w w1:=by rw[←hw1];exact(af.refl _ _).alloc _
 have HZ:=ae hz;have HD:=ae hd;have HK:=ae hk;clear hw1 hz hd hk;go_wp2_with fail
 go_ret;refine⟨by rw[HZ.out];rfl,⟨?_,HD.out.keeps ((af.refl [] _).alloc _) (by simp),ks.DM.ER seed,?_,by omega,?_,by simp[DM.all,DM.new],by simp⟩,HK.out.alloc _⟩
 ·have:=aG w1 (.cells #[.int .u64 (seed:Int),dp w.heap.size,.int .i64 0] 178);rw[HZ.out] at this;exact this
 ·intro b hb;simp[DM.blocks,DM.new,ks.cg] at hb;omega
 ·simp[DM.blocks,DM.new,ks.cg]
theorem GI (db n:Nat) (w:World) (h:w.cell? ⟨db,4,none⟩=some (.int .i64 (n:Int))):Calls Tryz.prog 135 #[dp db] w fun r w'=>r=.returned (.int .i64 (n:Int))∧w=w':=by
 unfold dp;go_enter Tryz.func135,Tryz.ntmps135
 go_wp2
 go_ret;exact⟨rfl,rfl⟩
theorem Fj (B rb db:Nat) (D:DM Unit) (cost:Nat) (ps:List ByteArray) (w:World) (h:nO B w rb db D cost ps):Calls Tryz.prog 103 #[dp rb] w fun r w'=>r=.returned (.int .i64 (ps.length:Int))∧w=w':=by
 have c1:w.cell? ⟨rb,1,none⟩=some (dp db):=by rw[ah h.hd];rfl
 have HL:=ae (GI db D.n w h.d.c4);rw[h.n] at HL;unfold dp at c1 HL ⊢;clear h;go_enter Tryz.func103,Tryz.ntmps103
 go_wp2_with fail
 refine HL.out.mono ?_;rintro r w2 ⟨rfl,rfl⟩;go_wp2_with fail
 go_ret;exact⟨rfl,rfl⟩
end jw.ed
end Go.Proofs.YthpdlidbaojlbaaGreatDoor
