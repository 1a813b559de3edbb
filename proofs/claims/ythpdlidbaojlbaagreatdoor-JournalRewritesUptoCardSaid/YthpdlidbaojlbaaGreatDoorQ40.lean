/- How many effects; how many words in each. No program in sigh -/
import Derived.Test.YthpdlidbaojlbaaGreatDoorQ39
set_option linter.unusedVariables false
set_option linter.unusedSimpArgs false
set_option maxHeartbeats 4000000
open Go.ChangeShapes Go.WideShapes Go.RowKit
namespace Go.Proofs.YthpdlidbaojlbaaGreatDoor
namespace jw
open ks (af ae hlt ah bC alloc_old aG aX aT dp)
theorem mh.keeps {α:Type} {enc:α→List Value} {k:Nat} {ty:TypeId} {B:Nat} {w w':World} {v:Value} {l:List α} {bs:List Nat} (h:mh enc k ty B w v l) (hk:af bs w w') (hb:bF enc k ty B w v l→∀ b,v.ownBlock=some b→b∉bs):mh enc k ty B w' v l:=h.imp id (fun h=>h.keeps hk (hb h))
theorem pI {w w':World} (h:af [] w w'):(∀ a,(w.cell? a).isSome=true→w'.cell? a=w.cell? a)∧(∀ a,(w.cell? a).isSome=true→w'.frozen? a=w.frozen? a):=
  ⟨fun a ha=>by
    obtain⟨u,hu⟩:=kR.1 ha;rw[hu];exact ak h hu,fun a ha=>by
    obtain⟨u,hu⟩:=kR.1 ha
    exact rB h hu (by simp)⟩
theorem LY {w w3 w4:World} (y:∀ a,(w.cell? a).isSome=true→w3.cell? a=w.cell? a) (h:af [] w3 w4):∀ a,(w.cell? a).isSome=true→w4.cell? a=w.cell? a:=fun a ha=>((pI h).1 a (by rw[y a ha];exact ha)).trans (y a ha)
theorem LX {w w3 w4:World} (y:∀ a,(w.cell? a).isSome=true→w3.cell? a=w.cell? a) (f:∀ a,(w.cell? a).isSome=true→w3.frozen? a=w.frozen? a) (h:af [] w3 w4):∀ a,(w.cell? a).isSome=true→w4.frozen? a=w.frozen? a:=fun a ha=>((pI h).2 a (by rw[y a ha];exact ha)).trans (f a ha)
theorem Ba {fn:Func} {p:Tmp} {ty:TypeId} (h:fn.results=#[.cell p ty]) (tmps:Array Value) (P:Program) (w:World):
    (results fn tmps).run P w=((asAddr (tmps.getD p undef)).run P w).andThen fun a w₁=>(loadVar ty a).run P w₁:=by
  simp only[results,h];simp[jA,Result.andThen]
structure PlR (w2 X:World) (pb:Nat) (kd:Int) (tx:ByteArray) (v1 v2 rv:Value) (it:List ByteArray) (ps rs:List (ByteArray×ByteArray)) (rk:List (ByteArray×Nat)):Prop where
  hd:X.heap[pb]?=some (.cells #[.int .i64 kd,.string tx,v1,v2,rv] 36 (0,0))
  i:mh b9 1 9 w2.heap.size X v1 it
  p:mh gJ 2 51 w2.heap.size X v2 ps
  r:bF dN 2 54 w2.heap.size X rv rk
  kp:af [] w2 X
  b:w2.heap.size≤pb
def TK:Obj:=.cells #[.int .i64 0,.string ⟨#[]⟩,.slice none 0 0,.slice none 0 0,.slice none 0 0] 36 (0,0)
theorem Dv {X:World} {b:Nat} {P:Obj} (h:X.heap.size=b):(X.alloc P).heap[b]?=some P:=h ▸ aG X P
theorem Gw {X:World} {b:Nat} {o P:Obj} (h:X.heap[b]?=some P):(X.alloc o).heap[b]?=some P:=alloc_old _ h
theorem PlR.Ub {w2 X:World} {kd:Int} {tx:ByteArray} {v1 v2:Value} {it:List ByteArray} {ps:List (ByteArray×ByteArray)} (hi:mh b9 1 9 w2.heap.size X v1 it) (hp:mh gJ 2 51 w2.heap.size X v2 ps) (hk:af [] w2 X):
    PlR w2 (X.alloc (.cells #[.int .i64 kd,.string tx,v1,v2,.slice none 0 0] 36)) X.heap.size kd tx v1 v2 (.slice none 0 0) it ps [] []:=
  have k:=(af.refl [] X).alloc (.cells #[.int .i64 kd,.string tx,v1,v2,.slice none 0 0] 36)
  ⟨aG X _,hi.aN k,hp.aN k,bF.nil _ _ _ _ _,hk.trans k,hk.size⟩
theorem PlR.Ua {w2 X:World} {pb:Nat} {kd:Int} {tx:ByteArray} {v1 v2:Value} {it:List ByteArray} {ps:List (ByteArray×ByteArray)} (hi:mh b9 1 9 w2.heap.size X v1 it) (hp:mh gJ 2 51 w2.heap.size X v2 ps) (hk:af [] w2 X) (hz:X.heap[pb]?=some TK) (hb:w2.heap.size≤pb):
    PlR w2 (((((X.setCell ⟨pb,0,none⟩ (.int .i64 kd)).setCell ⟨pb,1,none⟩ (.string tx)).setCell ⟨pb,2,none⟩ v1).setCell ⟨pb,3,none⟩ v2).setCell ⟨pb,4,none⟩ (.slice none 0 0)) pb kd tx v1 v2 (.slice none 0 0) it ps [] []:=by
  have k:af [pb] X (((((X.setCell ⟨pb,0,none⟩ (.int .i64 kd)).setCell ⟨pb,1,none⟩ (.string tx)).setCell ⟨pb,2,none⟩ v1).setCell ⟨pb,3,none⟩ v2).setCell ⟨pb,4,none⟩ (.slice none 0 0)):=(((((af.refl _ _).setCell (.inl (by simp)) _).setCell (.inl (by simp)) _).setCell (.inl (by simp)) _).setCell (.inl (by simp)) _).setCell (.inl (by simp)) _
  refine⟨?_,hi.keeps k (fun ho c hc hm=>by simp at hm;subst hm;exact ho.bw hz (by decide) hc),hp.keeps k (fun ho c hc hm=>by simp at hm;subst hm;exact ho.bw hz (by decide) hc),bF.nil _ _ _ _ _,hk.step k (fun b hm=>by simp at hm;subst hm;exact .inr hb),hb⟩;exact aX (aX (aX (aX (aX hz 0 _) 1 _) 2 _) 3 _) 4 _
theorem PlR.next {w2 X w9:World} {pb:Nat} {kd:Int} {tx:ByteArray} {v1 v2 rv:Value} {it:List ByteArray} {ps rs:List (ByteArray×ByteArray)} {rk:List (ByteArray×Nat)} {y:ByteArray×Nat} {g n c:Nat} (h:PlR w2 X pb kd tx v1 v2 rv it ps rs rk)
    (hp:eW dN 2 54 w2.heap.size X w9 rv rk y g n c):PlR w2 (w9.setCell ⟨pb,4,none⟩ (.slice (some ⟨g,0,none⟩) (n+1) c)) pb kd tx v1 v2 (.slice (some ⟨g,0,none⟩) (n+1) c) it ps rs (rk++[y]):=by
  have hne:rv.ownBlock≠some pb:=h.r.bw h.hd (by decide);have Gy:w9.heap[pb]?=some (.cells #[.int .i64 kd,.string tx,v1,v2,rv] 36 (0,0)):=hp.bY.get h.hd (by simpa using hne);have kk:af [pb] w9 (w9.setCell ⟨pb,4,none⟩ (.slice (some ⟨g,0,none⟩) (n+1) c)):=(af.refl _ _).setCell (.inl (by simp)) _;have hr1:=h.r;refine⟨by rw[aX Gy];rfl,?_,?_,?_,?_,h.b⟩
  · have h1:=h.i.keeps hp.bY (fun ho b hb hm=>ho.apart hr1 (by decide) b hb (by simpa using hm))
    exact h1.keeps kk (fun ho b hb hm=>by simp at hm;subst hm;exact ho.bw Gy (by decide) hb)
  · have h1:=h.p.keeps hp.bY (fun ho b hb hm=>ho.apart hr1 (by decide) b hb (by simpa using hm))
    exact h1.keeps kk (fun ho b hb hm=>by simp at hm;subst hm;exact ho.bw Gy (by decide) hb)
  · exact hp.own.keeps kk (fun b hb hm=>by simp at hm;subst hm;exact hp.own.bw Gy (by decide) hb)
  · exact(h.kp.step hp.bY (fun b hb=>.inr (h.r.lt b (by simpa using hb)).1)).setCell (.inr h.b) _
theorem PlR.sto {w2 X W:World} {pb:Nat} {kd:Int} {tx:ByteArray} {v1 v2 rv:Value} {it:List ByteArray} {ps rs:List (ByteArray×ByteArray)} {rk:List (ByteArray×Nat)} {b:Nat} (h:PlR w2 X pb kd tx v1 v2 rv it ps rs rk) (hk:af [b] X W) (hb:b<w2.heap.size):
    mh b9 1 9 w2.heap.size W v1 it∧mh gJ 2 51 w2.heap.size W v2 ps∧bF dN 2 54 w2.heap.size W rv rk:=
  ⟨h.i.keeps hk (fun ho c hc hm=>by simp at hm;have:=(ho.lt c hc).1;omega),h.p.keeps hk (fun ho c hc hm=>by simp at hm;have:=(ho.lt c hc).1;omega),h.r.keeps hk (fun c hc hm=>by simp at hm;have:=(h.r.lt c hc).1;omega)⟩
theorem EB (d:Ca) {k:Nat} (h:k<d.lN.length):(kX d).take (k+1)=(kX d).take k++[wv d k]:=by unfold kX;rw[←um,←um,List.take_range,List.take_range,dB (by omega),dB (by omega),rW,aZ];rfl
theorem tB (d:Ca):(kX d).length=d.lN.length:=by simp[kX]
set_option maxRecDepth 100000 in
theorem Nk (e:VE) (w:World) (h:I5 w e) (ho:DW e.d) (hn:e.d.items.length≤1048576∧e.d.bL.length≤1048576∧e.d.lN.length≤1048576∧e.d.bits.length≤1048576):
    Calls Tryz.prog 10 #[.agg #[.string e.d.key,.int .i64 e.d.dl,.int .i64 e.d.kind,.string e.d.text,e.iv,e.pv,e.mv,e.bv]] w fun r w'=>∃ f:StF,r=.returned (.agg #[.string f.d.key,.int .i64 f.d.val.kind,.string f.d.val.text,.slice f.ia f.d.val.items.length f.ic,.slice f.pa f.d.val.bL.length f.pc,.slice f.ra f.d.val.bI.length f.rc,.int .i64 f.d.dl])∧f.d=eG e.d∧StO w.heap.size w' f∧af [] w w':=by
  obtain⟨dd,iv,pv,mv,bv⟩:=e;obtain⟨hi,hp,hm,hb⟩:=h;simp only at hi hp hm hb ho hn ⊢;obtain⟨hn1,hn2,Ll,hn4⟩:=hn;obtain⟨ma,mc,rfl,_,_,_,hm⟩:=hm.texts;obtain⟨ba,bc,rfl,_,_,_,hb⟩:=hb;have FF:=ae (fun k (hk:k<dd.lN.length)=>EB dd hk);have Jj:=ae (tB dd);have HRR:=ae (show ∀ k,wv dd k=(dd.lN.getD k ByteArray.empty,dd.bits.getD k 0) from fun k=>rfl);have SX:=ae (show eG dd=⟨dd.key,⟨dd.kind,dd.text,dd.items,dd.bL,kX dd⟩,dd.dl⟩ from rfl);obtain⟨RK,hRK⟩:∃ RK,kX dd=RK:=⟨_,rfl⟩;rw[hRK] at FF Jj SX;obtain⟨RF,hRF⟩:∃ RF,wv dd=RF:=⟨_,rfl⟩;rw[hRF] at FF HRR;obtain⟨SO,hSO⟩:∃ SO,eG dd=SO:=⟨_,rfl⟩;rw[hSO] at SX ⊢;clear hRK hRF hSO;obtain⟨key,dl,kd,tx,it,ps,ms,bs⟩:=dd;simp only at *;obtain⟨n,hnn⟩:∃ n,ms.length=n:=⟨_,rfl⟩;obtain⟨nb,hnb⟩:∃ n,bs.length=n:=⟨_,rfl⟩;rw[hnn] at hm Ll FF Jj ⊢;rw[hnb] at hb hn4 ⊢;have HI:=ae hi;have HP:=ae hp;have HM:=ae hm;have HB:=ae hb;have xW:=ae hnn;have sh:=ae hnb;have Ed:=ae hn1;have O6:=ae hn2;have hf:=fl.xS;obtain⟨w2,hw2⟩:∃ w2,(w.alloc (.cells #[.string key,.int .i64 dl,.int .i64 kd,.string tx,iv,pv,.slice ma n mc,.slice ba nb bc] 42)).alloc (.cells #[.string ⟨#[]⟩,.int .i64 0,.string ⟨#[]⟩,.slice none 0 0,.slice none 0 0,.slice none 0 0,.int .i64 0] 38)=w2:=⟨_,rfl⟩;have hk2:af [] w w2:=by rw[←hw2];exact((af.refl _ w).alloc _).alloc _
  have hb1:w2.heap[w.heap.size]?=some (.cells #[.string key,.int .i64 dl,.int .i64 kd,.string tx,iv,pv,.slice ma n mc,.slice ba nb bc] 42 (0,0)):=by rw[←hw2];exact alloc_old _ (aG w _)
  have hb2:w2.heap[w.heap.size+1]?=some (.cells #[.string ⟨#[]⟩,.int .i64 0,.string ⟨#[]⟩,.slice none 0 0,.slice none 0 0,.slice none 0 0,.int .i64 0] 38 (0,0)):=by rw[←hw2];have:=aG (w.alloc (.cells #[.string key,.int .i64 dl,.int .i64 kd,.string tx,iv,pv,.slice ma n mc,.slice ba nb bc] 42)) (.cells #[.string ⟨#[]⟩,.int .i64 0,.string ⟨#[]⟩,.slice none 0 0,.slice none 0 0,.slice none 0 0,.int .i64 0] 38);simpa using this
  have hz2:w2.heap.size=w.heap.size+2:=by rw[←hw2];simp
  have HC:=ae (show ∀ X,af [] w2 X→X.cell? ⟨w.heap.size,0,none⟩=some (.string key)∧X.cell? ⟨w.heap.size,1,none⟩=some (.int .i64 dl)∧X.cell? ⟨w.heap.size,2,none⟩=some (.int .i64 kd)∧X.cell? ⟨w.heap.size,3,none⟩=some (.string tx)∧X.cell? ⟨w.heap.size,4,none⟩=some iv∧X.cell? ⟨w.heap.size,5,none⟩=some pv∧X.cell? ⟨w.heap.size,6,none⟩=some (.slice ma n mc)∧X.cell? ⟨w.heap.size,7,none⟩=some (.slice ba nb bc) from fun X hk=>by
    have h1:=hk.get hb1 (by simp)
    exact⟨by rw[ah h1];rfl,by rw[ah h1];rfl,by rw[ah h1];rfl,by rw[ah h1];rfl,by rw[ah h1];rfl,by rw[ah h1];rfl,by rw[ah h1];rfl,by rw[ah h1];rfl⟩)
  have HR:=ae hb2;have kM:=ae hk2;have HZ2:=ae hz2;have HS:=ae (show ∀ X,af [] w2 X→w.heap.size<X.heap.size∧w.heap.size<X.heap.size+1∧w.heap.size<X.heap.size+1+1 from fun X hk=>by have:=hk.size;omega);obtain⟨c0,c1,c2,c3,c4,c5,c6,c7⟩:=HC.out w2 (af.refl _ _);obtain⟨s0,s1,s2⟩:=HS.out w2 (af.refl _ _);clear hi hp hm hb hnn hnb hk2 hb1 hb2 hz2 ho hn1 hn2;go_enter Tryz.func10,Tryz.ntmps10
  go_upto_region 1 with(fail)
  clear hw2
  go_cut [3] (fun p X=>∃ (pb:Nat) (v1 v2:Value),p=.pointer (some ⟨pb,0,none⟩)∧Hid (PlR w2 X pb kd tx v1 v2 (.slice none 0 0) it ps [] []))
  case first Jc Kc zK hKc=>
    have Mx:=ae (show ∀ X,af [] w2 X→X.cell? ⟨w.heap.size,2,none⟩=some (.int .i64 kd)∧X.cell? ⟨w.heap.size,3,none⟩=some (.string tx)∧X.cell? ⟨w.heap.size,4,none⟩=some iv∧X.cell? ⟨w.heap.size,5,none⟩=some pv from fun X hk=>⟨(HC.out X hk).2.2.1,(HC.out X hk).2.2.2.1,(HC.out X hk).2.2.2.2.1,(HC.out X hk).2.2.2.2.2.1⟩);clear hf HM HB xW sh HRR SX Jj FF HR HZ2 HC c0 c1 c2 c3 c4 c5 c6 c7 hm Ll hn4 s0 s1 s2 HS;have t2:w2.heap.size<w2.heap.size+1+1:=by omega
    go_region_held3 (fun X=>X.cell? ⟨w.heap.size,2,none⟩=some (.int .i64 kd)∧X.cell? ⟨w.heap.size,3,none⟩=some (.string tx)∧X.cell? ⟨w.heap.size,4,none⟩=some iv∧X.cell? ⟨w.heap.size,5,none⟩=some pv)
      ((refine Mx.out _ ?_;(repeat(first|(with_reducible exact af.refl _ _)|(with_reducible refine af.setCell ?_ (.inr ?_) _)|(with_reducible refine af.alloc ?_ _)|(with_reducible refine af.drew ?_)|(with_reducible refine af.trans ?_ hk3)|(with_reducible refine af.trans ?_ hk4)));(all_goals (dsimp only;omega));done))
      (first
      | (refine Vj rfl _ _ rfl w2.heap.size _ it iv (by simp[Act.eval,Act.put];rfl) (by simp[Act.eval,Act.put]) (HI.out.aN (kM.out.trans ?_)) Ed.out (af.size (bs:=[]) ?_) ?_;(repeat(first|(with_reducible exact af.refl _ _)|(with_reducible refine af.alloc ?_ _)|(with_reducible refine af.drew ?_)|(with_reducible refine af.trans ?_ hk3)|(with_reducible refine af.trans ?_ hk4)));(repeat(first|(with_reducible exact af.refl _ _)|(with_reducible refine af.alloc ?_ _)|(with_reducible refine af.drew ?_)|(with_reducible refine af.trans ?_ hk3)|(with_reducible refine af.trans ?_ hk4)));intro v3 w3 ho3 hk3;obtain⟨a3,c3,rfl⟩:=ho3.form;have KA:af [] w2 w3:=(by repeat(first|(with_reducible exact af.refl _ _)|(with_reducible refine af.alloc ?_ _)|(with_reducible refine af.drew ?_)|(with_reducible refine af.trans ?_ hk3)|(with_reducible refine af.trans ?_ hk4)));have z3:=KA.size;obtain⟨y3,f3⟩:=pI hk3;(try(refine(have MO:af [] w4 w3:=?_;?_);(· ((repeat(first|(with_reducible exact af.refl _ _)|(with_reducible refine af.alloc ?_ _)|(with_reducible refine af.drew ?_)|(with_reducible refine af.trans ?_ hk3)|(with_reducible refine af.trans ?_ hk4)));done));have y5:=LY y4 MO;have f5:=LX y4 f4 MO)))
      | (refine Vk rfl _ _ rfl w2.heap.size _ ps pv (by simp[Act.eval,Act.put];rfl) (by simp[Act.eval,Act.put]) (HP.out.aN (kM.out.trans ?_)) O6.out (af.size (bs:=[]) ?_) ?_;(repeat(first|(with_reducible exact af.refl _ _)|(with_reducible refine af.alloc ?_ _)|(with_reducible refine af.drew ?_)|(with_reducible refine af.trans ?_ hk3)|(with_reducible refine af.trans ?_ hk4)));(repeat(first|(with_reducible exact af.refl _ _)|(with_reducible refine af.alloc ?_ _)|(with_reducible refine af.drew ?_)|(with_reducible refine af.trans ?_ hk3)|(with_reducible refine af.trans ?_ hk4)));intro v4 w4 XW hk4;obtain⟨a4,c4,rfl⟩:=XW.form;have KB:af [] w2 w4:=(by repeat(first|(with_reducible exact af.refl _ _)|(with_reducible refine af.alloc ?_ _)|(with_reducible refine af.drew ?_)|(with_reducible refine af.trans ?_ hk3)|(with_reducible refine af.trans ?_ hk4)));have z4:=KB.size;obtain⟨y4,f4⟩:=pI hk4;(try(refine(have MO:af [] w3 w4:=?_;?_);(· ((repeat(first|(with_reducible exact af.refl _ _)|(with_reducible refine af.alloc ?_ _)|(with_reducible refine af.drew ?_)|(with_reducible refine af.trans ?_ hk3)|(with_reducible refine af.trans ?_ hk4)));done));have y5:=LY y3 MO;have f5:=LX y3 f3 MO))))
    all_goals
      refine hKc _ _ (gE (zK _ _ ?_))
      (repeat apply Exists.intro)
      refine⟨?_,rfl⟩;refine⟨_,.slice a3 it.length c3,.slice a4 ps.length c4,rfl,ae ?_⟩
      first
      | (with_reducible exact PlR.Ub (ho3.aN MO) XW KB)
      | (with_reducible refine PlR.Ua (ho3.aN MO) XW KB ?_ ?_
         · first
           | exact hk4.get (Dv (by simp)) dU
           | exact hk4.get (Gw (Dv (by simp))) dU
           | exact MO.get (hk3.get (Dv (by simp)) dU) dU
           | exact MO.get (hk3.get (Gw (Dv (by simp))) dU) dU
           | exact MO.get (hk3.get (Gw (Gw (Dv (by simp)))) dU) dU
         · omega)
  case rest=>
    obtain⟨pb,v1,v2,rfl,HV⟩:=hcut;obtain⟨i1,j1,rfl⟩:=HV.out.i.form;obtain⟨i2,j2,rfl⟩:=HV.out.p.form;have TA:Hid (PlR w2 wc pb kd tx (.slice i1 it.length j1) (.slice i2 ps.length j2) (.slice none 0 0) it ps [] (RK.take 0)):=by simpa using HV
    clear HV c0 c1 c2 c3 c4 c5 c6 c7;obtain⟨c0,c1,c2,c3,c4,c5,c6,c7⟩:=HC.out wc TA.out.kp;go_wp2_with fail
    go_loopw [23,4,5,6] (fun i _ _ _ X=>∃ (k:Nat) (rv:Value),i=.int .i64 (k:Int)∧k≤n∧Hid (PlR w2 X pb kd tx (.slice i1 it.length j1) (.slice i2 ps.length j2) rv it ps [] (RK.take k))) (fun i _ _ _ _=>n-(intOf i).toNat)
    case atStart=>exact⟨0,_,rfl,bz _,TA⟩
    case round=>
      clear c0 c1 c2 c3 c4 c5 c6 c7;obtain⟨k,rv,rfl,hk,HV⟩:=hrel;obtain⟨c0,c1,c2,c3,c4,c5,c6,c7⟩:=HC.out wr HV.out.kp;have p0:wr.cell? ⟨pb,0,none⟩=some (.int .i64 kd):=by rw[ah HV.out.hd];rfl
      have p1:wr.cell? ⟨pb,1,none⟩=some (.string tx):=by rw[ah HV.out.hd];rfl
      have p2:wr.cell? ⟨pb,2,none⟩=some (.slice i1 it.length j1):=by rw[ah HV.out.hd];rfl
      have p3:wr.cell? ⟨pb,3,none⟩=some (.slice i2 ps.length j2):=by rw[ah HV.out.hd];rfl
      have p4:wr.cell? ⟨pb,4,none⟩=some rv:=by rw[ah HV.out.hd];rfl
      by_cases hlt:k<n
      · obtain⟨x,hx⟩:∃ x,ms[k]?=some x:=⟨_,ag (by rw[xW.out];exact hlt)⟩
        have HRW:=ae (FF.out k hlt);have HTL:=ae (show k=(RK.take k).length by rw[aR,Jj.out];omega);obtain⟨mg,mo,rfl,hmc⟩:=HM.out (by omega);have d0:=ak (kM.out.trans HV.out.kp) (hmc k x hx);have hkn:(k:Int)<(n:Int):=by omega
        have Wb:ms.getD k ByteArray.empty=x:=by rw[az,hx];rfl
        by_cases hkb:k<nb
        · obtain⟨y,hy⟩:∃ y,bs[k]?=some y:=⟨_,ag (by rw[sh.out];exact hkb)⟩
          obtain⟨bg,bo,rfl,hbc⟩:=HB.out (by omega);have d1:=ak (kM.out.trans HV.out.kp) (hbc k y hy 0 _ rfl);have BG:bs.getD k 0=y:=by rw[az,hy];rfl
          have Zu:=ae (show RF k=(x,y) by rw[HRR.out,Wb,BG]);have hkn2:(k:Int)<(nb:Int):=by omega
          simp only[bB,Nat.add_zero] at d1;clear hx hmc Wb hy hbc BG;go_wp2_with (at_builtin;go_loud (refine Ga rfl _ _ rfl w2.heap.size rv k (RK.take k) x y rfl HV.out.r HTL.out rfl (by omega) HV.out.kp.size ?_;intro g9 c9 w9 hp;have Gy:=hp.bY.get HV.out.hd (by simpa using HV.out.r.bw HV.out.hd (by decide));have z4:w9.cell? ⟨pb,4,none⟩=some rv:=(by rw[ah Gy];rfl);have zf:w9.frozen? ⟨pb,4,none⟩=false:=bC Gy 4;have wR:=ae hp;clear hp Gy))
          go_roundw
          case rel=>exact⟨k+1,_,by go_num,by omega,ae (by rw[HRW.out,Zu.out];exact HV.out.next wR.out)⟩
          case measure=>simp[intOf];omega
        · have BG:bs.getD k 0=0:=by rw[az,bR (by rw[sh.out];omega)];rfl
          have Zu:=ae (show RF k=(x,0) by rw[HRR.out,Wb,BG]);have hkn2:(nb:Int)≤(k:Int):=by omega
          clear hx hmc Wb BG;go_wp2_with (at_builtin;go_loud (refine Ga rfl _ _ rfl w2.heap.size rv k (RK.take k) x 0 rfl HV.out.r HTL.out rfl (by omega) HV.out.kp.size ?_;intro g9 c9 w9 hp;have Gy:=hp.bY.get HV.out.hd (by simpa using HV.out.r.bw HV.out.hd (by decide));have z4:w9.cell? ⟨pb,4,none⟩=some rv:=(by rw[ah Gy];rfl);have zf:w9.frozen? ⟨pb,4,none⟩=false:=bC Gy 4;have wR:=ae hp;clear hp Gy))
          go_roundw
          case rel=>exact⟨k+1,_,by go_num,by omega,ae (by rw[HRW.out,Zu.out];exact HV.out.next wR.out)⟩
          case measure=>simp[intOf];omega
      · obtain rfl:k=n:=by omega
        have Wn:=ae (show RK.take k=RK from aE (by rw[Jj.out];exact aq _));have hres:=HV.out.kp.get HR.out (by simp);obtain⟨ra,rc,Lh,_⟩:=HV.out.r.form;rw[Wn.out,Jj.out] at Lh;subst Lh;have s0:wr.cell? ⟨w.heap.size+1,0,none⟩=some (.string ⟨#[]⟩):=by rw[ah hres];rfl
        have s1:wr.cell? ⟨w.heap.size+1,1,none⟩=some (.int .i64 0):=by rw[ah hres];rfl
        have s2:wr.cell? ⟨w.heap.size+1,2,none⟩=some (.string ⟨#[]⟩):=by rw[ah hres];rfl
        have s3:wr.cell? ⟨w.heap.size+1,3,none⟩=some (.slice none 0 0):=by rw[ah hres];rfl
        have s4:wr.cell? ⟨w.heap.size+1,4,none⟩=some (.slice none 0 0):=by rw[ah hres];rfl
        have s5:wr.cell? ⟨w.heap.size+1,5,none⟩=some (.slice none 0 0):=by rw[ah hres];rfl
        have s6:wr.cell? ⟨w.heap.size+1,6,none⟩=some (.int .i64 0):=by rw[ah hres];rfl
        have sf:∀ j,wr.frozen? ⟨w.heap.size+1,j,none⟩=false:=fun j=>bC hres j
        have acU:=ae hres;clear hres;go_wp2_with fail
        refine gH (v:=.agg #[.string key,.int .i64 kd,.string tx,.slice i1 it.length j1,.slice i2 ps.length j2,.slice ra k rc,.int .i64 dl]) (by rw[Ba rfl];go_simp) rfl ?_;refine⟨⟨SO,i1,j1,i2,j2,ra,rc⟩,by rw[SX.out];simp only;rw[Jj.out],rfl,?_,?_⟩
        · obtain⟨g1,g2,g3⟩:=HV.out.sto (b:=w.heap.size+1) (W:=((((((wr.setCell ⟨w.heap.size+1,0,none⟩ (.string key)).setCell ⟨w.heap.size+1,1,none⟩ (.int .i64 kd)).setCell ⟨w.heap.size+1,2,none⟩ (.string tx)).setCell ⟨w.heap.size+1,3,none⟩ (.slice i1 it.length j1)).setCell ⟨w.heap.size+1,4,none⟩ (.slice i2 ps.length j2)).setCell ⟨w.heap.size+1,5,none⟩ (.slice ra k rc)).setCell ⟨w.heap.size+1,6,none⟩ (.int .i64 dl))
            (by repeat(first|(with_reducible exact af.refl _ _)|(with_reducible refine af.setCell ?_ (.inl (by simp)) _))) (by have:=HZ2.out;omega)
          have hb:w.heap.size≤w2.heap.size:=kM.out.size;rw[Wn.out] at g3;refine⟨?_,?_,?_⟩
          · rw[SX.out];exact g1.mono hb
          · rw[SX.out];exact g2.mono hb
          · rw[SX.out];simp only[StF.e];rw[Jj.out];exact g3.mono hb
        · have h0:=kM.out.trans HV.out.kp
          repeat(first|(with_reducible exact h0)|(with_reducible refine af.setCell ?_ (.inr (Nat.le_succ _)) _))
theorem qG.push {B:Nat} {X w9:World} {v:Value} {fs:List StF} {f:StF} {g n c:Nat} (h:qG B X v fs) (hf:StO B X f) (hp:eW ug 7 38 B X w9 v fs f g n c):qG B w9 (.slice (some ⟨g,0,none⟩) (n+1) c) (fs++[f]):=by
  refine⟨hp.own,fun e he=>?_⟩;have key:∀ e,StO B X e→StO B w9 e:=fun e ho=>⟨ho.i.keeps hp.bY (fun h1 b hb hm=>h1.apart h.row (by decide) b hb (by simpa using hm)),ho.p.keeps hp.bY (fun h1 b hb hm=>h1.apart h.row (by decide) b hb (by simpa using hm)),ho.r.keeps hp.bY (fun b hb hm=>ho.r.apart h.row (by decide) b hb (by simpa using hm))⟩
  rcases bj.1 he with he|he
  · exact key e (h.each e he)
  · simp at he;subst he;exact key _ hf
set_option maxRecDepth 100000 in
theorem Y5 (l:List VE) (v0:Value) (w:World) (h:AH w v0 l) (ho:∀ e∈l,DW e.d∧e.d.bits.length≤1048576) (hb:jc (l.map (fun e=>eG e.d))≤1048576):
    Calls Tryz.prog 4 #[v0] w fun r w'=>∃ v fs,r=.returned v∧qG w.heap.size w' v fs∧fs.map (fun f=>f.d)=l.map (fun e=>eG e.d)∧af [] w w':=by
  have hll:l.length≤1048576:=by have h1:=tR (l.map (fun e=>eG e.d));rw[aU] at h1;omega
  have H:=ae h;obtain⟨va,vc,rfl,_,_,_,hva⟩:=h.row;have Ji:=ae hva;have HO:=ae ho;have MY:=ae hb;obtain⟨n,hnn⟩:∃ n,l.length=n:=⟨_,rfl⟩;rw[hnn] at hll Ji ⊢;have HN:=ae hnn;have HI0:Hid (qG w.heap.size w (.slice none 0 0) []∧([]:List StF).map (fun f=>f.d)=(l.take 0).map (fun e=>eG e.d)∧af [] w w):=ae ⟨⟨bF.nil _ _ _ _ _,by simp⟩,by simp,af.refl _ _⟩;clear h hva ho hb hnn;go_enter Tryz.func4,Tryz.ntmps4
  go_wp2_with fail
  go_loopw [8,3,5] (fun i o _ X=>∃ (k:Nat) (v:Value) (fs:List StF),i=.int .i64 (k:Int)∧v=o∧k≤n∧Hid (qG w.heap.size X v fs∧fs.map (fun f=>f.d)=(l.take k).map (fun e=>eG e.d)∧af [] w X)) (fun i _ _ _=>n-(intOf i).toNat)
  case atStart=>exact⟨0,_,[],rfl,rfl,bz _,HI0⟩
  case round=>
    obtain⟨k,v,fs,rfl,rfl,hk,HV⟩:=hrel
    by_cases hlt:k<n
    · obtain⟨e,he⟩:∃ e,l[k]?=some e:=⟨_,ag (by rw[HN.out];exact hlt)⟩
      obtain⟨g,off,rfl,hcc⟩:=Ji.out (by omega);have hcd:=hcc k e he;have hem:=aB he;have RJ:=(H.out.each e hem).aN HV.out.2.2;have hno:=HO.out e hem
      have hsz:e.d.items.length≤1048576∧e.d.bL.length≤1048576∧e.d.lN.length≤1048576:=by have h1:=(jw.u9 MY.out (aV.2 ⟨e,hem,rfl⟩:eG e.d∈_)).1;have h3:=h1.mN;have h4:=tB e.d;simp only[eG] at h3;exact⟨h1.lO,h1.mO,by omega⟩
      have Wn:=ae (show(l.take (k+1)).map (fun e=>eG e.d)=(l.take k).map (fun e=>eG e.d)++[eG e.d] from iQ _ he);have qO:=ae (show k=fs.length by have:=congrArg List.length HV.out.2.1;rw[aU,aU,aR,HN.out] at this;omega);obtain⟨w3,hw3⟩:∃ w3,wr.alloc (.cells (sQ e).toArray 42)=w3:=⟨_,rfl⟩;have hb3:w3.heap[wr.heap.size]?=some (.cells (sQ e).toArray 42 (0,0)):=by rw[←hw3];exact aG wr _
      have hk3:af [] wr w3:=by rw[←hw3];exact(af.refl _ wr).alloc _
      have HST:=ae (Nk e w3 (RJ.aN hk3) hno.1 ⟨hsz.1,hsz.2.1,hsz.2.2,hno.2⟩);have hsx:∀ (j:Nat) (u:Value),(sQ e)[j]?=some u→wr.cell? ⟨g,off+k*8+j,none⟩=some u:=fun j u hu=>ak HV.out.2.2 (hcd j u hu)
      have zt:=ae hk3;obtain⟨dd,iv,pv,mv,bv⟩:=e;obtain⟨r1,r2,r3,r4⟩:=RJ;simp only at r1 r2 r3 r4;obtain⟨ia,nY,rfl,_⟩:=r1;obtain⟨pa,pj,rfl,_⟩:=r2;obtain⟨ma,WH,rfl,_⟩:=r3;obtain⟨ba,Y0,rfl,_⟩:=r4;have x0:=hsx 0 _ rfl;have x1:=hsx 1 _ rfl;have x2:=hsx 2 _ rfl;have x3:=hsx 3 _ rfl;have x4:=hsx 4 _ rfl;have x5:=hsx 5 _ rfl;have x6:=hsx 6 _ rfl;have x7:=hsx 7 _ rfl;unfold sQ at hw3 hb3;simp only[Nat.add_zero] at x0 x1 x2 x3 x4 x5 x6 x7 hw3 hb3 HST;have y0:w3.cell? ⟨wr.heap.size,0,none⟩=some (.string dd.key):=by rw[ah hb3];rfl
      have y1:w3.cell? ⟨wr.heap.size,1,none⟩=some (.int .i64 dd.dl):=by rw[ah hb3];rfl
      have y2:w3.cell? ⟨wr.heap.size,2,none⟩=some (.int .i64 dd.kind):=by rw[ah hb3];rfl
      have y3:w3.cell? ⟨wr.heap.size,3,none⟩=some (.string dd.text):=by rw[ah hb3];rfl
      have y4:w3.cell? ⟨wr.heap.size,4,none⟩=some (.slice ia dd.items.length nY):=by rw[ah hb3];rfl
      have y5:w3.cell? ⟨wr.heap.size,5,none⟩=some (.slice pa dd.bL.length pj):=by rw[ah hb3];rfl
      have y6:w3.cell? ⟨wr.heap.size,6,none⟩=some (.slice ma dd.lN.length WH):=by rw[ah hb3];rfl
      have y7:w3.cell? ⟨wr.heap.size,7,none⟩=some (.slice ba dd.bits.length Y0):=by rw[ah hb3];rfl
      have hkn:(k:Int)<(n:Int):=by omega
      clear he hcc hcd hem hsx hk3 hb3 hno hsz;go_wp2_with fail
      refine HST.out.mono ?_;rintro r w5 ⟨f,rfl,Yk,hfo,hk5⟩;have HFD:=ae Yk;have HFO:=ae hfo;have AO:=ae (zt.out.trans hk5);clear Yk hfo hk5 x0 x1 x2 x3 x4 x5 x6 x7 y0 y1 y2 y3 y4 y5 y6 y7;go_wp2_with (at_builtin;go_loud (refine T4 rfl _ _ rfl w.heap.size v k fs f rfl (HV.out.1.row.aN AO.out) qO.out rfl (by omega) (HV.out.2.2.trans AO.out).size ?_;intro g9 c9 w9 hp;have wR:=ae hp;clear hp))
      go_roundw
      case rel=>exact⟨k+1,_,_,by go_num,rfl,by omega,ae ⟨(HV.out.1.aN AO.out).push (HFO.out.mono (HV.out.2.2.trans zt.out).size) wR.out,by rw[aZ,HV.out.2.1,Wn.out,bP,jD,HFD.out],(HV.out.2.2.trans AO.out).step wR.out.bY (fun b hb=>.inr (HV.out.1.row.lt b (by simpa using hb)).1)⟩⟩
      case measure=>simp[intOf];omega
    · obtain rfl:k=n:=by omega
      go_wp2_with fail
      go_ret;exact⟨v,fs,rfl,HV.out.1,by rw[HV.out.2.1,aE (by rw[HN.out];exact aq _)],HV.out.2.2⟩
theorem y9:∀ (l:List Words) (size n:Nat) (e:Words),(∀ g∈l,g.length≤2)→n≤64→(iG size n e l).1.length≤e.length+2*(64-n)
 | [],size,n,e,_,_=>by simp[iG]
 | g::gs,size,n,e,h,hn=>by
  unfold iG;split
  ·have h1:=y9 gs (size+dz g) (n+1) (e++g) (fun x hx=>h x (by simp[hx])) (by omega);have h2:=h g (by simp);rw[aM] at h1;omega
  ·simp
theorem ou (name key:ByteArray):∀ (f:Nat) (l:List Words),(parts name key f l).length≤f
 | 0,l=>by simp[parts]
 | f+1,[]=>by simp[parts]
 | f+1,g::gs=>by unfold parts;have:=ou name key f (iG (dz [name,key]) 0 [name,key] (g::gs)).2;simp only[List.length_cons];omega
theorem yz (name key:ByteArray):∀ (f:Nat) (l:List Words),(∀ g∈l,g.length≤2)→∀ x∈parts name key f l,x.length≤130
 | 0,l,_,x,hx=>by simp[parts] at hx
 | f+1,[],_,x,hx=>by simp[parts] at hx
 | f+1,g::gs,h,x,hx=>by
  unfold parts at hx
  rcases bM.1 hx with rfl|hx
  ·have:=y9 (g::gs) (dz [name,key]) 0 [name,key] h (by omega);simp only[List.length_cons,List.length_nil] at this ⊢;omega
  ·exact yz name key f _ (fun y hy=>h y (tL _ _ _ _ y hy)) x hx
theorem yY (pr:Nat→ByteArray) (q:cG):∀ g∈eV pr q,g.length≤2:=by
 intro g hg;unfold eV at hg
 rcases bj.1 hg with hg|hg
 ·rcases bj.1 hg with hg|hg
  ·obtain⟨x,_,rfl⟩:=aV.1 hg;simp
  ·obtain⟨x,_,rfl⟩:=aV.1 hg;simp
 ·obtain⟨x,_,rfl⟩:=aV.1 hg;simp
theorem DJ {p q:cG} (h:jV p q) (hs:jz p) (pr:Nat→ByteArray) (key:ByteArray):(if q.kind=1 then [[iS 1,key,q.text]] else parts (iS q.kind) key (eV pr q).length (eV pr q)).length≤nQ p+1:=by
 split
 ·simp
 ·have:=ou (iS q.kind) key (eV pr q).length (eV pr q);have:=pJ h hs pr;omega
theorem Oq {p q:cG} (h:jV p q) (hs:jz p) (pr:Nat→ByteArray) (tx:Int→ByteArray) (key:ByteArray) (dl:Int):(vG pr tx key dl q).length≤nQ p+2∧∀ x∈vG pr tx key dl q,x.length≤130:=by
 unfold vG;refine⟨?_,fun x hx=>?_⟩
 ·have h1:=DJ h hs pr key;have h2:(if 0<dl then [[od,key,tx dl]] else ([]:List Words)).length≤1:=by split<;>simp
  rw[aM];omega
 ·rcases bj.1 hx with hx|hx
  ·split at hx
   ·simp at hx;rw[hx];simp
   ·exact yz _ _ _ _ (yY pr q) x hx
  ·split at hx
   ·simp at hx;rw[hx];simp
   ·simp at hx
theorem Hp {pr:Nat→ByteArray} {tx:Int→ByteArray} {prev:Option ByteArray} {l:List gn} {o:Option (List Words)} (h:nK pr tx prev l o) (hs:∀ x∈l,jz x.val):(o.getD []).length≤2*jc l∧∀ x∈o.getD [],x.length≤130:=by
 induction h with
 | nil=>simp
 | bad=>simp
 | cons prev x l q r hr hq hrr ih=>
  obtain⟨i1,i2⟩:=ih (fun y hy=>hs y (by simp[hy]));obtain⟨e1,e2⟩:=Oq hq (hs x (by simp)) pr tx x.key x.dl
  cases r with
  | none=>simp
  | some r=>
   simp only[Option.map_some,Option.getD_some] at i1 i2 ⊢;rw[aM,rH];refine⟨by unfold sV;omega,fun y hy=>?_⟩
   rcases bj.1 hy with hy|hy
   ·exact e2 y hy
   ·exact i2 y hy
end jw
end Go.Proofs.YthpdlidbaojlbaaGreatDoor
