/- value: a list's plain form. -/
import Derived.Test.YthpdlidbaojlbaaGreatDoorQ12
set_option linter.unusedVariables false
set_option linter.unusedSimpArgs false
set_option maxHeartbeats 4000000
open Go.ChangeShapes Go.WideShapes Go.RowKit
namespace Go.Proofs.YthpdlidbaojlbaaGreatDoor
namespace jw
open Go.Shelf
open ks (af ae hlt ah bC alloc_old aG aX aT dp KP pZ eS fI rA)
attribute [local go_sem] Oper.semAt_some
theorem kZ {w w':World} {b o:Nat} {v:Value} (k:KP (fun _=>True) w w') (h:w.cell? ⟨b,o,none⟩=some v):w'.cell? ⟨b,o,none⟩=some v:=by have hl:=du w _ h;unfold World.cell? at h ⊢;simp only[k.block b hl trivial];exact h
theorem oU {α:Type} {enc:α→List Value} {k ty B:Nat} {w:World} {v:Value} {l:List α} (h:bF enc k ty B w v l) {b:Nat} {ds:Option (List Deferred)} (hb:w.heap[b]?=some (.deferred ds)):v.ownBlock≠some b:=by
 intro e
 rcases h.2 with⟨rfl,_⟩|⟨g1,OA,jv,rfl,_,hg1,_⟩
 ·simp[Value.ownBlock] at e
 ·simp[Value.ownBlock] at e;subst e;rw[hg1] at hb;simp at hb
def uS (k:Nat) (t:ByteArray) (iv pv rv:Value):Obj:=.cells #[.int .i64 (k:Int),.string t,iv,pv,rv] 36 (0,0)
structure LpR (W:World) (ob bx k:Nat) (t:ByteArray) (pv rv:Value) (xs:List ByteArray) (G H:eS) (X:World) (v:Value):Prop where
 o:X.heap[ob]?=some (uS k t v pv rv)
 bo:X.heap[bx]?=some (.cells #[dp ob] 115 (0,0))
 row:bF b9 1 9 W.heap.size X v xs
 g:∀ b,b=ob∨b=bx∨v.ownBlock=some b→G b
 h:∀ b,b=ob∨v.ownBlock=some b→H b
theorem LpR.lW {W:World} {ob bx k:Nat} {t:ByteArray} {pv rv:Value} {xs:List ByteArray} {G H:eS} {A B:World} {v:Value} (h:LpR W ob bx k t pv rv xs G H A v) (hk:KP G A B):LpR W ob bx k t pv rv xs G H B v:=⟨(hk.block _ (hlt h.o) (h.g _ (.inl rfl))).trans h.o,(hk.block _ (hlt h.bo) (h.g _ (.inr (.inl rfl)))).trans h.bo,h.row.bY (fun b hb=>hk.block b (h.row.lt b hb).2 (h.g b (.inr (.inr hb)))),h.g,h.h⟩
theorem LpR.step {W:World} {ob bx k:Nat} {t:ByteArray} {pv rv:Value} {xs:List ByteArray} {G H:eS} {X w5:World} {v:Value} {s:ByteArray} {g n cap:Nat} (h:LpR W ob bx k t pv rv xs G H X v) (hp:eW b9 1 9 W.heap.size X.drew w5 v xs s g n cap) (ho:ob<W.heap.size):
  w5.cell? ⟨bx,0,none⟩=some (.pointer (some ⟨ob,0,none⟩))∧(∃ u,w5.cell? ⟨ob,2,none⟩=some u)∧w5.frozen? ⟨ob,2,none⟩=false∧
  ∃ G' H',LpR W ob bx k t pv rv (xs++[s]) G' H' (w5.setCell ⟨ob,2,none⟩ (.slice (some ⟨g,0,none⟩) (n+1) cap)) (.slice (some ⟨g,0,none⟩) (n+1) cap)∧(∀ b,G' b→G b∨X.heap.size≤b)∧(∀ b,H' b→H b∨X.heap.size≤b)∧KP (fun b=>¬H b) X (w5.setCell ⟨ob,2,none⟩ (.slice (some ⟨g,0,none⟩) (n+1) cap)):=by
 have hox:=hlt h.o;have hbx:=hlt h.bo;have Gu:v.ownBlock≠some ob:=fun e=>by have:=(h.row.lt _ e).1;omega
 have hne:ob≠bx:=fun e=>by have h1:=h.o;rw[e,h.bo] at h1;unfold uS at h1;simp at h1
 have hvb:v.ownBlock≠some bx:=h.row.bw h.bo (by decide);have o1:w5.heap[ob]?=some (uS k t v pv rv):=hp.bY.get (show X.drew.heap[ob]?=_ from h.o) (by simp;exact Gu);have b1:w5.heap[bx]?=some (.cells #[dp ob] 115 (0,0)):=hp.bY.get (show X.drew.heap[bx]?=_ from h.bo) (by simp;exact hvb)
 have hg:g≠ob:=by
  rcases hp.at_ with e|e
  ·exact fun e2=>Gu (by rw[←e2];exact e)
  ·have:X.drew.heap.size=X.heap.size:=rfl;omega
 have hkp:KP (fun b=>¬H b) X (w5.setCell ⟨ob,2,none⟩ (.slice (some ⟨g,0,none⟩) (n+1) cap)):=by refine KP.setCell (p:=⟨ob,2,none⟩) ?_ (fun hc=>by have:=hc.2;exact this (h.h ob (.inl rfl))) _;have:=KP.il (G:=fun b=>¬H b) hp.bY (fun b _ hb hm=>hb (h.h b (.inr (by simpa using hm))));exact((KP.refl _ X).drew).trans this
 refine⟨by rw[ah b1];rfl,⟨_,by rw[ah o1];rfl⟩,bC o1 2,fun b=>G b∨b=g,fun b=>H b∨b=g,⟨?_,?_,?_,?_,?_⟩,?_,?_,hkp⟩
 ·rw[aX o1 2 _];rfl
 ·exact(aT _ (fun e=>hne e.symm)).trans b1
 ·exact hp.own.bY (fun b hb=>aT _ (fun e=>hg (by simp[Value.ownBlock] at hb;rw[hb];exact e)))
 ·rintro b (rfl|rfl|hb)
  ·exact .inl (h.g _ (.inl rfl))
  ·exact .inl (h.g _ (.inr (.inl rfl)))
  ·simp[Value.ownBlock] at hb;exact .inr hb.symm
 ·rintro b (rfl|hb)
  ·exact .inl (h.h _ (.inl rfl))
  ·simp[Value.ownBlock] at hb;exact .inr hb.symm
 ·rintro b (hb|rfl)
  ·exact .inl hb
  ·rcases hp.at_ with e|e
   ·exact .inl (h.g _ (.inr (.inr e)))
   ·exact .inr e
 ·rintro b (hb|rfl)
  ·exact .inl hb
  ·rcases hp.at_ with e|e
   ·exact .inl (h.h _ (.inr e))
   ·exact .inr e
set_option maxRecDepth 8000 in
theorem E3 (B ob db:Nat) (sv:Value) (cs:List CK) (cost k:Nat) (t:ByteArray) (pv rv:Value) (W:World) (h:o9 B W db sv cs cost) (hb:(cO cs).length≤1048576) (ho:W.heap[ob]?=some (uS k t (.slice none 0 0) pv rv)):
  Calls Tryz.prog 326 #[.agg #[dp db],dp ob] W fun r w'=>r=.returned (.tuple #[])∧∃ v',w'.heap[ob]?=some (uS k t v' pv rv)∧bF b9 1 9 W.heap.size w' v' (cO cs)∧af [ob] W w':=by
 obtain⟨i9,hi9,iV,iA,im⟩:=cF qc;have H:=ae h;have HO:=ae ho;have zI:=hlt ho;have hdb:=hlt h.hd;clear h ho;refine(fw (n:=9)).1 ?_;have HE:=ae (fun X=>Ov db X);unfold dp at HE ⊢;refine iW Tryz.func326 rfl trivial ?_ rfl;simp only[Tryz.ntmps326,cJ,List.length_cons,List.length_nil,Nat.reduceAdd,Nat.reduceSub,fv,Array.replicate_zero,gd,fF,List.nil_append,List.cons_append]
 gi_wp2_with (refine⟨trivial,?_⟩;gi_at_call 328;refine(fw.2 (HE.out _)).mono ?_;rintro e w' ⟨rfl,rfl⟩)
 have hz:(((W.alloc (.cells #[dp db] 163)).alloc (.cells #[dp ob] 115)).alloc (.cells #[dp db] 98)).heap.size=W.heap.size+3:=by simp
 have hk0:af [] W (((W.alloc (.cells #[dp db] 163)).alloc (.cells #[dp ob] 115)).alloc (.cells #[dp db] 98)):=(((af.refl _ W).alloc _).alloc _).alloc _
 have hb1:(((W.alloc (.cells #[dp db] 163)).alloc (.cells #[dp ob] 115)).alloc (.cells #[dp db] 98)).heap[W.heap.size+1]?=some (.cells #[dp ob] 115 (0,0)):=by have:=aG (W.alloc (.cells #[dp db] 163)) (.cells #[dp ob] 115);rw[de] at this;exact alloc_old _ this
 have hb2:(((W.alloc (.cells #[dp db] 163)).alloc (.cells #[dp ob] 115)).alloc (.cells #[dp db] 98)).heap[W.heap.size+1+1]?=some (.cells #[dp db] 98 (0,0)):=by have:=aG ((W.alloc (.cells #[dp db] 163)).alloc (.cells #[dp ob] 115)) (.cells #[dp db] 98);rw[de,de] at this;exact this
 unfold dp at hz hk0 hb1 hb2;generalize ((W.alloc (.cells #[.pointer (some ⟨db,0,none⟩)] 163)).alloc (.cells #[.pointer (some ⟨ob,0,none⟩)] 115)).alloc (.cells #[.pointer (some ⟨db,0,none⟩)] 98)=W2 at *
 have ME:=ae hk0;have HB1:=ae hb1;have c2:W2.cell? ⟨W.heap.size+1+1,0,none⟩=some (.pointer (some ⟨db,0,none⟩)):=by rw[ah hb2];rfl
 refine fI (α:=ByteArray×Nat) (xs:=(cO cs).zipIdx) (Rd:=fun _=>False) (encs:=fun x=>#[.int .i64 (x.2:Int),.string x.1]) rfl (by decide) (gf:=329) (lb:=#[dp (W.heap.size+1+1)]) rfl trivial (enters_of (c:=_) Tryz.func329 (by kernel_rfl) rfl)
  (fun W' hk=>Ou (9-1) B _ db sv cs cost W' (by decide) (kZ hk c2) (H.out.aN (hk0.trans (hk.keeps (fun _ _ _=>trivial)))) hb) (fun _=>rfl)
  (fun pre G H X=>∃ v,LpR W ob (W.heap.size+1) k t pv rv (pre.map (fun x=>x.1)) G H X v)
  (fun b=>b=ob∨b=W.heap.size+1) (fun b=>b=ob) ?hI ?h0 ?hG ?hH ?a1 ?assign ?body ?done
 case assign=>
  intro l x X K hK
  gi_wp2
  exact hK
 case hI=>rintro pre G H A B ⟨v,h1⟩ hk;exact⟨v,h1.lW hk⟩
 case h0=>
  refine⟨.slice none 0 0,hk0.get HO.out (by simp),hb1,bF.nil _ _ _ _ _,?_,?_⟩
  ·rintro b (rfl|rfl|hb)
   ·exact .inl rfl
   ·exact .inr rfl
   ·simp[Value.ownBlock] at hb
  ·rintro b (rfl|hb)
   ·rfl
   ·simp[Value.ownBlock] at hb
 case hG=>intro b hb;rcases hb with rfl|rfl<;>omega
 case hH=>rintro b rfl;exact⟨by omega,id⟩
 case body=>
  rintro l pre x rest G H X hx ⟨v,hI⟩;obtain⟨va,fD,rfl,_,_,_,_⟩:=hI.row.form;have hbx:=hlt hI.bo;have uJ:W.heap.size≤X.drew.heap.size:=by show W.heap.size≤X.heap.size;omega
  have hln:=congrArg List.length hx;simp at hln;have fC:=ae (fun g cap w5 (hp:eW b9 1 9 W.heap.size X.drew w5 (.slice va (pre.map (fun x=>x.1)).length fD) (pre.map (fun x=>x.1)) x.1 g (pre.map (fun x=>x.1)).length cap)=>hI.step hp zI);have c1:X.drew.cell? ⟨W.heap.size+1,0,none⟩=some (.pointer (some ⟨ob,0,none⟩)):=by rw[ah (show X.drew.heap[W.heap.size+1]?=_ from hI.bo)];rfl
  have o1:X.drew.cell? ⟨ob,2,none⟩=some (.slice va (pre.map (fun x=>x.1)).length fD):=by rw[ah (show X.drew.heap[ob]?=_ from hI.o)];rfl
  have c1x:X.cell? ⟨W.heap.size+1,0,none⟩=some (.pointer (some ⟨ob,0,none⟩)):=c1;have Z8:X.cell? ⟨ob,2,none⟩=some (.slice va (pre.map (fun x=>x.1)).length fD):=o1;have c1':(X.alloc (.cells #[.string x.1] 9)).cell? ⟨W.heap.size+1,0,none⟩=some (.pointer (some ⟨ob,0,none⟩)):=kZ ((KP.refl _ _).alloc _) c1x;have o1':(X.alloc (.cells #[.string x.1] 9)).cell? ⟨ob,2,none⟩=some (.slice va (pre.map (fun x=>x.1)).length fD):=kZ ((KP.refl _ _).alloc _) Z8;have fN:=ae (show bF b9 1 9 W.heap.size X.drew (.slice va (pre.map (fun x=>x.1)).length fD) (pre.map (fun x=>x.1)) from hI.row.bY (fun _ _=>rfl));have hm1:(pre.map (fun x=>x.1)).length+1≤maxLen:=by simp;unfold maxLen;omega
  have hm2:((pre.map (fun x=>x.1)).length+1)*16≤140737488355328:=by simp;omega
  have gA:=ae (show ∀ (a:Act) (w6:World) (v:Value),(∃ G' H',LpR W ob (W.heap.size+1) k t pv rv ((pre.map (fun x=>x.1))++[x.1]) G' H' w6 v∧(∀ b,G' b→G b∨X.heap.size≤b)∧(∀ b,H' b→H b∨X.heap.size≤b)∧KP (fun b=>¬H b) X w6)→rA (fun pre G H X=>∃ v,LpR W ob (W.heap.size+1) k t pv rv (pre.map (fun x=>x.1)) G H X v) (pre++[x]) G H X .normal a w6 from fun a w6 v h=>by
   show ∃ G' H',(∃ v,LpR W ob (W.heap.size+1) k t pv rv ((pre++[x]).map (fun x=>x.1)) G' H' w6 v)∧(∀ b,G' b→G b∨X.heap.size≤b)∧(∀ b,H' b→H b∨X.heap.size≤b)∧KP (fun b=>¬H b) X w6
   rw[aZ];obtain⟨G',H',a1,a2,a3,a4⟩:=h
   exact⟨G',H',⟨v,a1⟩,a2,a3,a4⟩)
  generalize pre.map (fun x=>x.1)=xs at *
  obtain⟨vn,XH⟩:∃ vn,vn=xs.length:=⟨_,rfl⟩;rw[←XH] at o1 Z8 o1' fN hm1 hm2 fC;have kN:=ae XH;clear hI hx hln XH
  gi_wp2
  refine lJ (by kernel_rfl) (by rintro⟨a,w,h⟩;exact h) (by kernel_rfl) ?_;refine bV (i:=5) (v:=?v1) rfl (by kernel_rfl) (by kernel_rfl) (by kernel_rfl) (fun _ _ _ h=>h) (Or.inl ⟨by rfl,?hy1⟩) ?CM
  case hy1=>intro w;go_simp;first|done|with_reducible rfl
  case CM=>
   refine aO (rs:=[0,1,6]) (by kernel_rfl) (by simp) ?_;refine aC rfl (fun K hK=>?_) ?_
   ·go_simp;refine hK _ _ ?_;clear hK K;refine aO (rs:=[1,6]) (by kernel_rfl) (by simp) ?_;refine aC rfl (fun K hK=>?_) ?_
    ·go_simp;refine hK _ _ ?_;clear hK K;refine bV (i:=2) (v:=?v2) rfl (by kernel_rfl) (by kernel_rfl) (by kernel_rfl) (fun _ _ _ h=>h) (Or.inl ⟨by rfl,?hy2⟩) ?CL
     case hy2=>intro w;go_simp;first|done|with_reducible rfl
     case CL=>
      refine bV (i:=3) (v:=?v3) rfl (by kernel_rfl) (by kernel_rfl) (by kernel_rfl) (fun _ _ _ h=>h) (Or.inl ⟨by rfl,?hy3⟩) ?CJ
      case hy3=>intro w;go_simp;first|done|with_reducible rfl
      case CJ=>
       refine aO (rs:=[4,6]) (by kernel_rfl) (by simp) ?_;refine aC rfl (fun K hK=>?_) ?_
       ·go_simp;refine hK _ _ ?_;clear hK K;refine aO (rs:=[6]) (by kernel_rfl) (by simp) ?_;refine aC rfl (fun K hK=>?_) ?_
        ·go_simp;refine hK _ _ ?_;clear hK K;refine aO (rs:=[7]) (by kernel_rfl) (by simp) ?_;refine aC rfl (fun K hK=>?_) ?_
         ·refine ei rfl _ _ 32 rfl b9 1 9 W.heap.size i9 (.string ByteArray.empty) 16 Tryz.underlying32 hi9 iV iA im rfl dR (.slice va vn fD) vn _ x.1 rfl fN.out kN.out 9 rfl 1 rfl hm1 hm2 uJ ?_;intro g cap w5 hp;obtain⟨b5,⟨u5,o5⟩,f5,hfin⟩:=fC.out g cap w5 hp;have HF:=ae hfin;clear hp hfin;refine hK _ _ ?_;clear hK K;refine bV (i:=8) (v:=?v4) rfl (by kernel_rfl) (by kernel_rfl) (by kernel_rfl) (fun _ _ _ h=>h) (Or.inl ⟨by rfl,?hy4⟩) ?T1
          case hy4=>intro w;go_simp;first|done|with_reducible rfl
          case T1=>
           refine bV (i:=9) (v:=?v5) rfl (by kernel_rfl) (by kernel_rfl) (by kernel_rfl) (fun _ _ _ h=>h) (Or.inl ⟨by rfl,?hy5⟩) ?T0
           case hy5=>intro w;go_simp;first|done|with_reducible rfl
           case T0=>
            refine aO (rs:=[10]) (by kernel_rfl) (by simp) ?_;refine aC rfl (fun K hK=>?_) ?_
            ·go_simp;refine hK _ _ ?_;clear hK K;refine dH (by kernel_rfl) ?_ _;exact gA.out ⟨#[],[]⟩ _ _ HF.out
            exact aH
         exact aH
        exact aH
       refine aC rfl (fun K hK=>?_) ?_
       ·go_simp;refine hK _ _ ?_;clear hK K;refine aO (rs:=[4]) (by kernel_rfl) (by simp) ?_;refine aC rfl (fun K hK=>?_) ?_
        ·go_simp;refine hK _ _ ?_;clear hK K;refine aO (rs:=[7]) (by kernel_rfl) (by simp) ?_;refine aC rfl (fun K hK=>?_) ?_
         ·refine ei rfl _ _ 32 rfl b9 1 9 W.heap.size i9 (.string ByteArray.empty) 16 Tryz.underlying32 hi9 iV iA im rfl dR (.slice va vn fD) vn _ x.1 rfl fN.out kN.out 9 rfl 1 rfl hm1 hm2 uJ ?_;intro g cap w5 hp;obtain⟨b5,⟨u5,o5⟩,f5,hfin⟩:=fC.out g cap w5 hp;have HF:=ae hfin;clear hp hfin;refine hK _ _ ?_;clear hK K;refine bV (i:=8) (v:=?v6) rfl (by kernel_rfl) (by kernel_rfl) (by kernel_rfl) (fun _ _ _ h=>h) (Or.inl ⟨by rfl,?Wa⟩) ?TZ
          case Wa=>intro w;go_simp;first|done|with_reducible rfl
          case TZ=>
           refine bV (i:=9) (v:=?v7) rfl (by kernel_rfl) (by kernel_rfl) (by kernel_rfl) (fun _ _ _ h=>h) (Or.inl ⟨by rfl,?hy7⟩) ?TY
           case hy7=>intro w;go_simp;first|done|with_reducible rfl
           case TY=>
            refine aO (rs:=[10]) (by kernel_rfl) (by simp) ?_;refine aC rfl (fun K hK=>?_) ?_
            ·go_simp;refine hK _ _ ?_;clear hK K;refine dH (by kernel_rfl) ?_ _;exact gA.out ⟨#[],[]⟩ _ _ HF.out
            exact aH
         exact aH
        exact aH
       exact aH
    refine aC rfl (fun K hK=>?_) ?_
    ·go_simp;refine hK _ _ ?_;clear hK K;refine aO (rs:=[1]) (by kernel_rfl) (by simp) ?_;refine aC rfl (fun K hK=>?_) ?_
     ·go_simp;refine hK _ _ ?_;clear hK K;refine bV (i:=2) (v:=?v8) rfl (by kernel_rfl) (by kernel_rfl) (by kernel_rfl) (fun _ _ _ h=>h) (Or.inl ⟨by rfl,?V3⟩) ?TX
      case V3=>intro w;go_simp;first|done|with_reducible rfl
      case TX=>
       refine bV (i:=3) (v:=?v9) rfl (by kernel_rfl) (by kernel_rfl) (by kernel_rfl) (fun _ _ _ h=>h) (Or.inl ⟨by rfl,?hy9⟩) ?TW
       case hy9=>intro w;go_simp;first|done|with_reducible rfl
       case TW=>
        refine aO (rs:=[4]) (by kernel_rfl) (by simp) ?_;refine aC rfl (fun K hK=>?_) ?_
        ·go_simp;refine hK _ _ ?_;clear hK K;refine aO (rs:=[7]) (by kernel_rfl) (by simp) ?_;refine aC rfl (fun K hK=>?_) ?_
         ·refine ei rfl _ _ 32 rfl b9 1 9 W.heap.size i9 (.string ByteArray.empty) 16 Tryz.underlying32 hi9 iV iA im rfl dR (.slice va vn fD) vn _ x.1 rfl fN.out kN.out 9 rfl 1 rfl hm1 hm2 uJ ?_;intro g cap w5 hp;obtain⟨b5,⟨u5,o5⟩,f5,hfin⟩:=fC.out g cap w5 hp;have HF:=ae hfin;clear hp hfin;refine hK _ _ ?_;clear hK K;refine bV (i:=8) (v:=?v10) rfl (by kernel_rfl) (by kernel_rfl) (by kernel_rfl) (fun _ _ _ h=>h) (Or.inl ⟨by rfl,?XE⟩) ?QZ
          case XE=>intro w;go_simp;first|done|with_reducible rfl
          case QZ=>
           refine bV (i:=9) (v:=?v11) rfl (by kernel_rfl) (by kernel_rfl) (by kernel_rfl) (fun _ _ _ h=>h) (Or.inl ⟨by rfl,?XD⟩) ?QY
           case XD=>intro w;go_simp;first|done|with_reducible rfl
           case QY=>
            refine aO (rs:=[10]) (by kernel_rfl) (by simp) ?_;refine aC rfl (fun K hK=>?_) ?_
            ·go_simp;refine hK _ _ ?_;clear hK K;refine dH (by kernel_rfl) ?_ _;exact gA.out ⟨#[],[]⟩ _ _ HF.out
            exact aH
         exact aH
        exact aH
     exact aH
    exact aH
   refine aC rfl (fun K hK=>?_) ?_
   ·go_simp;refine hK _ _ ?_;clear hK K;refine bV (i:=2) (v:=?v12) rfl (by kernel_rfl) (by kernel_rfl) (by kernel_rfl) (fun _ _ _ h=>h) (Or.inl ⟨by rfl,?XC⟩) ?QX
    case XC=>intro w;go_simp;first|done|with_reducible rfl
    case QX=>
     refine bV (i:=3) (v:=?v13) rfl (by kernel_rfl) (by kernel_rfl) (by kernel_rfl) (fun _ _ _ h=>h) (Or.inl ⟨by rfl,?XB⟩) ?QW
     case XB=>intro w;go_simp;first|done|with_reducible rfl
     case QW=>
      refine aO (rs:=[0,4,6]) (by kernel_rfl) (by simp) ?_;refine aC rfl (fun K hK=>?_) ?_
      ·go_simp;refine hK _ _ ?_;clear hK K;refine aO (rs:=[4,6]) (by kernel_rfl) (by simp) ?_;refine aC rfl (fun K hK=>?_) ?_
       ·go_simp;refine hK _ _ ?_;clear hK K;refine aO (rs:=[6]) (by kernel_rfl) (by simp) ?_;refine aC rfl (fun K hK=>?_) ?_
        ·go_simp;refine hK _ _ ?_;clear hK K;refine aO (rs:=[7]) (by kernel_rfl) (by simp) ?_;refine aC rfl (fun K hK=>?_) ?_
         ·refine ei rfl _ _ 32 rfl b9 1 9 W.heap.size i9 (.string ByteArray.empty) 16 Tryz.underlying32 hi9 iV iA im rfl dR (.slice va vn fD) vn _ x.1 rfl fN.out kN.out 9 rfl 1 rfl hm1 hm2 uJ ?_;intro g cap w5 hp;obtain⟨b5,⟨u5,o5⟩,f5,hfin⟩:=fC.out g cap w5 hp;have HF:=ae hfin;clear hp hfin;refine hK _ _ ?_;clear hK K;refine bV (i:=8) (v:=?v14) rfl (by kernel_rfl) (by kernel_rfl) (by kernel_rfl) (fun _ _ _ h=>h) (Or.inl ⟨by rfl,?XA⟩) ?QV
          case XA=>intro w;go_simp;first|done|with_reducible rfl
          case QV=>
           refine bV (i:=9) (v:=?v15) rfl (by kernel_rfl) (by kernel_rfl) (by kernel_rfl) (fun _ _ _ h=>h) (Or.inl ⟨by rfl,?Xz⟩) ?QU
           case Xz=>intro w;go_simp;first|done|with_reducible rfl
           case QU=>
            refine aO (rs:=[10]) (by kernel_rfl) (by simp) ?_;refine aC rfl (fun K hK=>?_) ?_
            ·go_simp;refine hK _ _ ?_;clear hK K;refine dH (by kernel_rfl) ?_ _;exact gA.out ⟨#[],[]⟩ _ _ HF.out
            exact aH
         exact aH
        exact aH
       refine aC rfl (fun K hK=>?_) ?_
       ·go_simp;refine hK _ _ ?_;clear hK K;refine aO (rs:=[4]) (by kernel_rfl) (by simp) ?_;refine aC rfl (fun K hK=>?_) ?_
        ·go_simp;refine hK _ _ ?_;clear hK K;refine aO (rs:=[7]) (by kernel_rfl) (by simp) ?_;refine aC rfl (fun K hK=>?_) ?_
         ·refine ei rfl _ _ 32 rfl b9 1 9 W.heap.size i9 (.string ByteArray.empty) 16 Tryz.underlying32 hi9 iV iA im rfl dR (.slice va vn fD) vn _ x.1 rfl fN.out kN.out 9 rfl 1 rfl hm1 hm2 uJ ?_;intro g cap w5 hp;obtain⟨b5,⟨u5,o5⟩,f5,hfin⟩:=fC.out g cap w5 hp;have HF:=ae hfin;clear hp hfin;refine hK _ _ ?_;clear hK K;refine bV (i:=8) (v:=?v16) rfl (by kernel_rfl) (by kernel_rfl) (by kernel_rfl) (fun _ _ _ h=>h) (Or.inl ⟨by rfl,?Xy⟩) ?QT
          case Xy=>intro w;go_simp;first|done|with_reducible rfl
          case QT=>
           refine bV (i:=9) (v:=?v17) rfl (by kernel_rfl) (by kernel_rfl) (by kernel_rfl) (fun _ _ _ h=>h) (Or.inl ⟨by rfl,?Xx⟩) ?QS
           case Xx=>intro w;go_simp;first|done|with_reducible rfl
           case QS=>
            refine aO (rs:=[10]) (by kernel_rfl) (by simp) ?_;refine aC rfl (fun K hK=>?_) ?_
            ·go_simp;refine hK _ _ ?_;clear hK K;refine dH (by kernel_rfl) ?_ _;exact gA.out ⟨#[],[]⟩ _ _ HF.out
            exact aH
         exact aH
        exact aH
       exact aH
      refine aC rfl (fun K hK=>?_) ?_
      ·go_simp;refine hK _ _ ?_;clear hK K;refine aO (rs:=[0,6]) (by kernel_rfl) (by simp) ?_;refine aC rfl (fun K hK=>?_) ?_
       ·go_simp;refine hK _ _ ?_;clear hK K;refine aO (rs:=[6]) (by kernel_rfl) (by simp) ?_;refine aC rfl (fun K hK=>?_) ?_
        ·go_simp;refine hK _ _ ?_;clear hK K;refine aO (rs:=[7]) (by kernel_rfl) (by simp) ?_;refine aC rfl (fun K hK=>?_) ?_
         ·refine ei rfl _ _ 32 rfl b9 1 9 W.heap.size i9 (.string ByteArray.empty) 16 Tryz.underlying32 hi9 iV iA im rfl dR (.slice va vn fD) vn _ x.1 rfl fN.out kN.out 9 rfl 1 rfl hm1 hm2 uJ ?_;intro g cap w5 hp;obtain⟨b5,⟨u5,o5⟩,f5,hfin⟩:=fC.out g cap w5 hp;have HF:=ae hfin;clear hp hfin;refine hK _ _ ?_;clear hK K;refine bV (i:=8) (v:=?v18) rfl (by kernel_rfl) (by kernel_rfl) (by kernel_rfl) (fun _ _ _ h=>h) (Or.inl ⟨by rfl,?Xw⟩) ?QQ
          case Xw=>intro w;go_simp;first|done|with_reducible rfl
          case QQ=>
           refine bV (i:=9) (v:=?v19) rfl (by kernel_rfl) (by kernel_rfl) (by kernel_rfl) (fun _ _ _ h=>h) (Or.inl ⟨by rfl,?Xv⟩) ?QP
           case Xv=>intro w;go_simp;first|done|with_reducible rfl
           case QP=>
            refine aO (rs:=[10]) (by kernel_rfl) (by simp) ?_;refine aC rfl (fun K hK=>?_) ?_
            ·go_simp;refine hK _ _ ?_;clear hK K;refine dH (by kernel_rfl) ?_ _;exact gA.out ⟨#[],[]⟩ _ _ HF.out
            exact aH
         exact aH
        exact aH
       refine aC rfl (fun K hK=>?_) ?_
       ·go_simp;refine hK _ _ ?_;clear hK K;refine aO (rs:=[0,7]) (by kernel_rfl) (by simp) ?_;refine aC rfl (fun K hK=>?_) ?_
        ·go_simp;refine hK _ _ ?_;clear hK K;refine aO (rs:=[7]) (by kernel_rfl) (by simp) ?_;refine aC rfl (fun K hK=>?_) ?_
         ·refine ei rfl _ _ 32 rfl b9 1 9 W.heap.size i9 (.string ByteArray.empty) 16 Tryz.underlying32 hi9 iV iA im rfl dR (.slice va vn fD) vn _ x.1 rfl fN.out kN.out 9 rfl 1 rfl hm1 hm2 uJ ?_;intro g cap w5 hp;obtain⟨b5,⟨u5,o5⟩,f5,hfin⟩:=fC.out g cap w5 hp;have HF:=ae hfin;clear hp hfin;refine hK _ _ ?_;clear hK K;refine bV (i:=8) (v:=?v20) rfl (by kernel_rfl) (by kernel_rfl) (by kernel_rfl) (fun _ _ _ h=>h) (Or.inl ⟨by rfl,?Xu⟩) ?QO
          case Xu=>intro w;go_simp;first|done|with_reducible rfl
          case QO=>
           refine bV (i:=9) (v:=?v21) rfl (by kernel_rfl) (by kernel_rfl) (by kernel_rfl) (fun _ _ _ h=>h) (Or.inl ⟨by rfl,?Xt⟩) ?QN
           case Xt=>intro w;go_simp;first|done|with_reducible rfl
           case QN=>
            refine aO (rs:=[10]) (by kernel_rfl) (by simp) ?_;refine aC rfl (fun K hK=>?_) ?_
            ·go_simp;refine hK _ _ ?_;clear hK K;refine dH (by kernel_rfl) ?_ _;exact gA.out ⟨#[],[]⟩ _ _ HF.out
            exact aH
         exact aH
        refine aC rfl (fun K hK=>?_) ?_
        ·refine ei rfl _ _ 32 rfl b9 1 9 W.heap.size i9 (.string ByteArray.empty) 16 Tryz.underlying32 hi9 iV iA im rfl dR (.slice va vn fD) vn _ x.1 rfl fN.out kN.out 9 rfl 1 rfl hm1 hm2 uJ ?_;intro g cap w5 hp;obtain⟨b5,⟨u5,o5⟩,f5,hfin⟩:=fC.out g cap w5 hp;have HF:=ae hfin;clear hp hfin;refine hK _ _ ?_;clear hK K;refine aO (rs:=[0]) (by kernel_rfl) (by simp) ?_;refine aC rfl (fun K hK=>?_) ?_
         ·go_simp;refine hK _ _ ?_;clear hK K;refine bV (i:=8) (v:=?v22) rfl (by kernel_rfl) (by kernel_rfl) (by kernel_rfl) (fun _ _ _ h=>h) (Or.inl ⟨by rfl,?Xs⟩) ?QM
          case Xs=>intro w;go_simp;first|done|with_reducible rfl
          case QM=>
           refine bV (i:=9) (v:=?v23) rfl (by kernel_rfl) (by kernel_rfl) (by kernel_rfl) (fun _ _ _ h=>h) (Or.inl ⟨by rfl,?Xr⟩) ?QL
           case Xr=>intro w;go_simp;first|done|with_reducible rfl
           case QL=>
            refine aO (rs:=[10]) (by kernel_rfl) (by simp) ?_;refine aC rfl (fun K hK=>?_) ?_
            ·go_simp;refine hK _ _ ?_;clear hK K;refine dH (by kernel_rfl) ?_ _;exact gA.out ⟨#[],[]⟩ _ _ HF.out
            exact aH
         exact aH
        exact aH
       exact aH
      refine aC rfl (fun K hK=>?_) ?_
      ·go_simp;refine hK _ _ ?_;clear hK K;refine aO (rs:=[0,4]) (by kernel_rfl) (by simp) ?_;refine aC rfl (fun K hK=>?_) ?_
       ·go_simp;refine hK _ _ ?_;clear hK K;refine aO (rs:=[4]) (by kernel_rfl) (by simp) ?_;refine aC rfl (fun K hK=>?_) ?_
        ·go_simp;refine hK _ _ ?_;clear hK K;refine aO (rs:=[7]) (by kernel_rfl) (by simp) ?_;refine aC rfl (fun K hK=>?_) ?_
         ·refine ei rfl _ _ 32 rfl b9 1 9 W.heap.size i9 (.string ByteArray.empty) 16 Tryz.underlying32 hi9 iV iA im rfl dR (.slice va vn fD) vn _ x.1 rfl fN.out kN.out 9 rfl 1 rfl hm1 hm2 uJ ?_;intro g cap w5 hp;obtain⟨b5,⟨u5,o5⟩,f5,hfin⟩:=fC.out g cap w5 hp;have HF:=ae hfin;clear hp hfin;refine hK _ _ ?_;clear hK K;refine bV (i:=8) (v:=?v24) rfl (by kernel_rfl) (by kernel_rfl) (by kernel_rfl) (fun _ _ _ h=>h) (Or.inl ⟨by rfl,?hy24⟩) ?QK
          case hy24=>intro w;go_simp;first|done|with_reducible rfl
          case QK=>
           refine bV (i:=9) (v:=?v25) rfl (by kernel_rfl) (by kernel_rfl) (by kernel_rfl) (fun _ _ _ h=>h) (Or.inl ⟨by rfl,?hy25⟩) ?QJ
           case hy25=>intro w;go_simp;first|done|with_reducible rfl
           case QJ=>
            refine aO (rs:=[10]) (by kernel_rfl) (by simp) ?_;refine aC rfl (fun K hK=>?_) ?_
            ·go_simp;refine hK _ _ ?_;clear hK K;refine dH (by kernel_rfl) ?_ _;exact gA.out ⟨#[],[]⟩ _ _ HF.out
            exact aH
         exact aH
        exact aH
       refine aC rfl (fun K hK=>?_) ?_
       ·go_simp;refine hK _ _ ?_;clear hK K;refine aO (rs:=[0,7]) (by kernel_rfl) (by simp) ?_;refine aC rfl (fun K hK=>?_) ?_
        ·go_simp;refine hK _ _ ?_;clear hK K;refine aO (rs:=[7]) (by kernel_rfl) (by simp) ?_;refine aC rfl (fun K hK=>?_) ?_
         ·refine ei rfl _ _ 32 rfl b9 1 9 W.heap.size i9 (.string ByteArray.empty) 16 Tryz.underlying32 hi9 iV iA im rfl dR (.slice va vn fD) vn _ x.1 rfl fN.out kN.out 9 rfl 1 rfl hm1 hm2 uJ ?_;intro g cap w5 hp;obtain⟨b5,⟨u5,o5⟩,f5,hfin⟩:=fC.out g cap w5 hp;have HF:=ae hfin;clear hp hfin;refine hK _ _ ?_;clear hK K;refine bV (i:=8) (v:=?v26) rfl (by kernel_rfl) (by kernel_rfl) (by kernel_rfl) (fun _ _ _ h=>h) (Or.inl ⟨by rfl,?Xq⟩) ?QI
          case Xq=>intro w;go_simp;first|done|with_reducible rfl
          case QI=>
           refine bV (i:=9) (v:=?v27) rfl (by kernel_rfl) (by kernel_rfl) (by kernel_rfl) (fun _ _ _ h=>h) (Or.inl ⟨by rfl,?hy27⟩) ?QH
           case hy27=>intro w;go_simp;first|done|with_reducible rfl
           case QH=>
            refine aO (rs:=[10]) (by kernel_rfl) (by simp) ?_;refine aC rfl (fun K hK=>?_) ?_
            ·go_simp;refine hK _ _ ?_;clear hK K;refine dH (by kernel_rfl) ?_ _;exact gA.out ⟨#[],[]⟩ _ _ HF.out
            exact aH
         exact aH
        refine aC rfl (fun K hK=>?_) ?_
        ·refine ei rfl _ _ 32 rfl b9 1 9 W.heap.size i9 (.string ByteArray.empty) 16 Tryz.underlying32 hi9 iV iA im rfl dR (.slice va vn fD) vn _ x.1 rfl fN.out kN.out 9 rfl 1 rfl hm1 hm2 uJ ?_;intro g cap w5 hp;obtain⟨b5,⟨u5,o5⟩,f5,hfin⟩:=fC.out g cap w5 hp;have HF:=ae hfin;clear hp hfin;refine hK _ _ ?_;clear hK K;refine aO (rs:=[0]) (by kernel_rfl) (by simp) ?_;refine aC rfl (fun K hK=>?_) ?_
         ·go_simp;refine hK _ _ ?_;clear hK K;refine bV (i:=8) (v:=?v28) rfl (by kernel_rfl) (by kernel_rfl) (by kernel_rfl) (fun _ _ _ h=>h) (Or.inl ⟨by rfl,?hy28⟩) ?QG
          case hy28=>intro w;go_simp;first|done|with_reducible rfl
          case QG=>
           refine bV (i:=9) (v:=?v29) rfl (by kernel_rfl) (by kernel_rfl) (by kernel_rfl) (fun _ _ _ h=>h) (Or.inl ⟨by rfl,?hy29⟩) ?QF
           case hy29=>intro w;go_simp;first|done|with_reducible rfl
           case QF=>
            refine aO (rs:=[10]) (by kernel_rfl) (by simp) ?_;refine aC rfl (fun K hK=>?_) ?_
            ·go_simp;refine hK _ _ ?_;clear hK K;refine dH (by kernel_rfl) ?_ _;exact gA.out ⟨#[],[]⟩ _ _ HF.out
            exact aH
         exact aH
        exact aH
       exact aH
      exact aH
   refine aC rfl (fun K hK=>?_) ?_
   ·go_simp;refine hK _ _ ?_;clear hK K;refine aO (rs:=[0,1]) (by kernel_rfl) (by simp) ?_;refine aC rfl (fun K hK=>?_) ?_
    ·go_simp;refine hK _ _ ?_;clear hK K;refine aO (rs:=[1]) (by kernel_rfl) (by simp) ?_;refine aC rfl (fun K hK=>?_) ?_
     ·go_simp;refine hK _ _ ?_;clear hK K;refine bV (i:=2) (v:=?v30) rfl (by kernel_rfl) (by kernel_rfl) (by kernel_rfl) (fun _ _ _ h=>h) (Or.inl ⟨by rfl,?Xp⟩) ?QE
      case Xp=>intro w;go_simp;first|done|with_reducible rfl
      case QE=>
       refine bV (i:=3) (v:=?v31) rfl (by kernel_rfl) (by kernel_rfl) (by kernel_rfl) (fun _ _ _ h=>h) (Or.inl ⟨by rfl,?hy31⟩) ?QD
       case hy31=>intro w;go_simp;first|done|with_reducible rfl
       case QD=>
        refine aO (rs:=[4]) (by kernel_rfl) (by simp) ?_;refine aC rfl (fun K hK=>?_) ?_
        ·go_simp;refine hK _ _ ?_;clear hK K;refine aO (rs:=[7]) (by kernel_rfl) (by simp) ?_;refine aC rfl (fun K hK=>?_) ?_
         ·refine ei rfl _ _ 32 rfl b9 1 9 W.heap.size i9 (.string ByteArray.empty) 16 Tryz.underlying32 hi9 iV iA im rfl dR (.slice va vn fD) vn _ x.1 rfl fN.out kN.out 9 rfl 1 rfl hm1 hm2 uJ ?_;intro g cap w5 hp;obtain⟨b5,⟨u5,o5⟩,f5,hfin⟩:=fC.out g cap w5 hp;have HF:=ae hfin;clear hp hfin;refine hK _ _ ?_;clear hK K;refine bV (i:=8) (v:=?v32) rfl (by kernel_rfl) (by kernel_rfl) (by kernel_rfl) (fun _ _ _ h=>h) (Or.inl ⟨by rfl,?hy32⟩) ?QC
          case hy32=>intro w;go_simp;first|done|with_reducible rfl
          case QC=>
           refine bV (i:=9) (v:=?v33) rfl (by kernel_rfl) (by kernel_rfl) (by kernel_rfl) (fun _ _ _ h=>h) (Or.inl ⟨by rfl,?Xo⟩) ?QB
           case Xo=>intro w;go_simp;first|done|with_reducible rfl
           case QB=>
            refine aO (rs:=[10]) (by kernel_rfl) (by simp) ?_;refine aC rfl (fun K hK=>?_) ?_
            ·go_simp;refine hK _ _ ?_;clear hK K;refine dH (by kernel_rfl) ?_ _;exact gA.out ⟨#[],[]⟩ _ _ HF.out
            exact aH
         exact aH
        exact aH
     exact aH
    refine aC rfl (fun K hK=>?_) ?_
    ·go_simp;refine hK _ _ ?_;clear hK K;refine bV (i:=2) (v:=?v34) rfl (by kernel_rfl) (by kernel_rfl) (by kernel_rfl) (fun _ _ _ h=>h) (Or.inl ⟨by rfl,?hy34⟩) ?QA
     case hy34=>intro w;go_simp;first|done|with_reducible rfl
     case QA=>
      refine bV (i:=3) (v:=?v35) rfl (by kernel_rfl) (by kernel_rfl) (by kernel_rfl) (fun _ _ _ h=>h) (Or.inl ⟨by rfl,?Xn⟩) ?Qz
      case Xn=>intro w;go_simp;first|done|with_reducible rfl
      case Qz=>
       refine aO (rs:=[0,4]) (by kernel_rfl) (by simp) ?_;refine aC rfl (fun K hK=>?_) ?_
       ·go_simp;refine hK _ _ ?_;clear hK K;refine aO (rs:=[4]) (by kernel_rfl) (by simp) ?_;refine aC rfl (fun K hK=>?_) ?_
        ·go_simp;refine hK _ _ ?_;clear hK K;refine aO (rs:=[7]) (by kernel_rfl) (by simp) ?_;refine aC rfl (fun K hK=>?_) ?_
         ·refine ei rfl _ _ 32 rfl b9 1 9 W.heap.size i9 (.string ByteArray.empty) 16 Tryz.underlying32 hi9 iV iA im rfl dR (.slice va vn fD) vn _ x.1 rfl fN.out kN.out 9 rfl 1 rfl hm1 hm2 uJ ?_;intro g cap w5 hp;obtain⟨b5,⟨u5,o5⟩,f5,hfin⟩:=fC.out g cap w5 hp;have HF:=ae hfin;clear hp hfin;refine hK _ _ ?_;clear hK K;refine bV (i:=8) (v:=?v36) rfl (by kernel_rfl) (by kernel_rfl) (by kernel_rfl) (fun _ _ _ h=>h) (Or.inl ⟨by rfl,?Xm⟩) ?Qy
          case Xm=>intro w;go_simp;first|done|with_reducible rfl
          case Qy=>
           refine bV (i:=9) (v:=?v37) rfl (by kernel_rfl) (by kernel_rfl) (by kernel_rfl) (fun _ _ _ h=>h) (Or.inl ⟨by rfl,?Xl⟩) ?Qx
           case Xl=>intro w;go_simp;first|done|with_reducible rfl
           case Qx=>
            refine aO (rs:=[10]) (by kernel_rfl) (by simp) ?_;refine aC rfl (fun K hK=>?_) ?_
            ·go_simp;refine hK _ _ ?_;clear hK K;refine dH (by kernel_rfl) ?_ _;exact gA.out ⟨#[],[]⟩ _ _ HF.out
            exact aH
         exact aH
        exact aH
       refine aC rfl (fun K hK=>?_) ?_
       ·go_simp;refine hK _ _ ?_;clear hK K;refine aO (rs:=[0,7]) (by kernel_rfl) (by simp) ?_;refine aC rfl (fun K hK=>?_) ?_
        ·go_simp;refine hK _ _ ?_;clear hK K;refine aO (rs:=[7]) (by kernel_rfl) (by simp) ?_;refine aC rfl (fun K hK=>?_) ?_
         ·refine ei rfl _ _ 32 rfl b9 1 9 W.heap.size i9 (.string ByteArray.empty) 16 Tryz.underlying32 hi9 iV iA im rfl dR (.slice va vn fD) vn _ x.1 rfl fN.out kN.out 9 rfl 1 rfl hm1 hm2 uJ ?_;intro g cap w5 hp;obtain⟨b5,⟨u5,o5⟩,f5,hfin⟩:=fC.out g cap w5 hp;have HF:=ae hfin;clear hp hfin;refine hK _ _ ?_;clear hK K;refine bV (i:=8) (v:=?v38) rfl (by kernel_rfl) (by kernel_rfl) (by kernel_rfl) (fun _ _ _ h=>h) (Or.inl ⟨by rfl,?hy38⟩) ?Qw
          case hy38=>intro w;go_simp;first|done|with_reducible rfl
          case Qw=>
           refine bV (i:=9) (v:=?v39) rfl (by kernel_rfl) (by kernel_rfl) (by kernel_rfl) (fun _ _ _ h=>h) (Or.inl ⟨by rfl,?hy39⟩) ?Qv
           case hy39=>intro w;go_simp;first|done|with_reducible rfl
           case Qv=>
            refine aO (rs:=[10]) (by kernel_rfl) (by simp) ?_;refine aC rfl (fun K hK=>?_) ?_
            ·go_simp;refine hK _ _ ?_;clear hK K;refine dH (by kernel_rfl) ?_ _;exact gA.out ⟨#[],[]⟩ _ _ HF.out
            exact aH
         exact aH
        refine aC rfl (fun K hK=>?_) ?_
        ·refine ei rfl _ _ 32 rfl b9 1 9 W.heap.size i9 (.string ByteArray.empty) 16 Tryz.underlying32 hi9 iV iA im rfl dR (.slice va vn fD) vn _ x.1 rfl fN.out kN.out 9 rfl 1 rfl hm1 hm2 uJ ?_;intro g cap w5 hp;obtain⟨b5,⟨u5,o5⟩,f5,hfin⟩:=fC.out g cap w5 hp;have HF:=ae hfin;clear hp hfin;refine hK _ _ ?_;clear hK K;refine aO (rs:=[0]) (by kernel_rfl) (by simp) ?_;refine aC rfl (fun K hK=>?_) ?_
         ·go_simp;refine hK _ _ ?_;clear hK K;refine bV (i:=8) (v:=?v40) rfl (by kernel_rfl) (by kernel_rfl) (by kernel_rfl) (fun _ _ _ h=>h) (Or.inl ⟨by rfl,?Xk⟩) ?Qu
          case Xk=>intro w;go_simp;first|done|with_reducible rfl
          case Qu=>
           refine bV (i:=9) (v:=?v41) rfl (by kernel_rfl) (by kernel_rfl) (by kernel_rfl) (fun _ _ _ h=>h) (Or.inl ⟨by rfl,?Xj⟩) ?Qt
           case Xj=>intro w;go_simp;first|done|with_reducible rfl
           case Qt=>
            refine aO (rs:=[10]) (by kernel_rfl) (by simp) ?_;refine aC rfl (fun K hK=>?_) ?_
            ·go_simp;refine hK _ _ ?_;clear hK K;refine dH (by kernel_rfl) ?_ _;exact gA.out ⟨#[],[]⟩ _ _ HF.out
            exact aH
         exact aH
        exact aH
       exact aH
    exact aH
   exact aH
 case done=>
  rintro D G H X hD ⟨v,hI⟩ hH hk hd;have HI:=ae hI;have HK:=ae hk;clear hI hk hH
  gi_wp2
  refine⟨by simp,.inl ⟨_,_,rfl,ky hd,?_⟩⟩;have Tt:=hlt hd;have ho2:=HI.out.o;have hne:ob≠D:=by omega
  have hvD:v.ownBlock≠some D:=oU HI.out.row hd;refine⟨_,kz rfl _ _ _,rfl,v,(dL hne).trans ho2,?_,?_⟩
  ·have h2:=HI.out.row.bY (w':=X.putObj D (.deferred none)) (fun b hb=>dL (fun e=>hvD (by rw[←e];exact hb)));have e:(cO cs).zipIdx.map (fun x=>x.1)=cO cs:=List.zipIdx_map_fst 0 _;rw[e] at h2;exact h2
  ·have h3:=(HK.out.putObj (l:=D) (fun h=>by omega) (.deferred none)).keeps (bs:=[ob]) (fun b _ hb=>by simpa using hb);exact(ME.out.mono (by simp)).trans h3
end jw
end Go.Proofs.YthpdlidbaojlbaaGreatDoor
