/- cmp.Compare of texts; the pairs' comparison. -/
import Derived.Test.YthpdlidbaojlbaaGreatDoorQ15
set_option linter.unusedVariables false
set_option linter.unusedSimpArgs false
set_option maxHeartbeats 4000000
open Go.ChangeShapes Go.WideShapes Go.RowKit
namespace Go.Proofs.YthpdlidbaojlbaaGreatDoor
namespace jw.sd
open Go.Shelf
open ks (af ae hlt ah bC alloc_old aG aX aT dp KP pZ eS DM DE bu TabIs ptr fJ lq e9 fI rA)
attribute [local go_sem] Oper.semAt_some
theorem iI {X:World}:∀ {l1 l2:List (DE ByteArray)} {e:DE ByteArray},e9 dty X (l1++e::l2)→X.cell? ⟨e.b,0,none⟩=some (.string e.k)∧X.cell? ⟨e.b,1,none⟩=some (.string e.v)∧X.cell? ⟨e.b,2,none⟩=some (ptr l2)
 | [],l2,e,h=>by have h1:=h.1;unfold ks.gG at h1;exact⟨by rw[ah h1];rfl,by rw[ah h1];rfl,by rw[ah h1];rfl⟩
 | x::l1,l2,e,h=>iI h.2
theorem zl (db:Nat) (W:World):
  Calls Tryz.prog 344 #[dp db] W fun r w'=>r=.returned (.func (.func 348) #[] #[dp W.heap.size])∧w'=W.alloc (.cells #[dp db] 164):=by
 unfold dp;go_enter Tryz.func344,Tryz.ntmps344
 go_wp2_with fail
 go_ret;exact⟨rfl,rfl⟩
theorem wO (db:Nat) (W:World):
  Calls Tryz.prog 339 #[dp db] W fun r w'=>r=.returned (.func (.func 343) #[] #[dp W.heap.size])∧w'=W.alloc (.cells #[dp db] 164):=by
 unfold dp;go_enter Tryz.func339,Tryz.ntmps339
 go_wp2_with fail
 go_ret;exact⟨rfl,rfl⟩
structure AmR {α:Type} (J:List α→eS→eS→World→Prop) (G0 H0:eS) (W:World) (xs:List α) (m:Nat) (X:World):Prop where
 j:∃ G H,J (xs.take m) G H X∧(∀ b,G b→G0 b∨W.heap.size≤b)∧∀ b,H b→H0 b∨W.heap.size≤b
 kp:KP (fun b=>¬H0 b) W X
theorem AmR.step {α:Type} {J:List α→eS→eS→World→Prop} {G0 H0:eS} {W:World} {xs:List α} {m:Nat} {X Y:World} {x:α} (h:KP (fun b=>¬H0 b) W X) {G H:eS} (hG:∀ b,G b→G0 b∨W.heap.size≤b) (hH:∀ b,H b→H0 b∨W.heap.size≤b) (hx:xs[m]?=some x)
  (hr:∃ G' H',J (xs.take m++[x]) G' H' Y∧(∀ b,G' b→G b∨X.heap.size≤b)∧(∀ b,H' b→H b∨X.heap.size≤b)∧KP (fun b=>¬H b) X Y):AmR J G0 H0 W xs (m+1) Y:=by
 obtain⟨G',H',hj,hg,hh,hk⟩:=hr;refine⟨⟨G',H',by rw[c8,hx];exact hj,fun b hb=>?_,fun b hb=>?_⟩,h.uU hk (fun b hl hb hc=>?_)⟩
 ·rcases hg b hb with h1|h1
  ·exact hG b h1
  ·exact .inr (aF h.size h1)
 ·rcases hh b hb with h1|h1
  ·exact hH b h1
  ·exact .inr (aF h.size h1)
 ·rcases hH b hc with h1|h1
  ·exact hb h1
  ·omega
set_option maxRecDepth 8000 in
theorem LM (n cx db:Nat) (D:DM ByteArray) (W:World) (hn:4≤n) (hcx:W.cell? ⟨cx,0,none⟩=some (dp db)) (hD:D.WF) (h:bu dty W db D):
  pZ (α:=DE ByteArray) Fence.wide n Tryz.prog 343 #[dp cx] (fun e=>#[.string e.k,.string e.v]) D.all (fun _=>False) W:=by
 intro l J G0 H0 hJ hY h0 hG hH;have h1:1≤n:=by omega
 have hcl:cx<W.heap.size:=du W _ hcx;obtain⟨i9,hi9,iV,iA,im⟩:=cF qc;have HJ:=ae hJ;have HY:=ae hY;have H:=ae h;have VT:=ae h;have ZG:=ae h0;have se:=ae (fun X=>zl db X);clear h h0 hJ hY;unfold dp at hcx se ⊢;refine iW Tryz.func343 rfl trivial ?_ rfl;simp only[Tryz.ntmps343,cJ,List.length_cons,List.length_nil,Nat.reduceAdd,Nat.reduceSub,fv,Array.replicate_zero,gd,fF,List.nil_append,List.cons_append]
 gi_wp2_with (refine⟨trivial,?_⟩;gi_at_call 344;refine(fw.2 (se.out _)).mono ?_;rintro e w' ⟨rfl,rfl⟩)
 have hz:(((W.alloc (.cells #[.slice none 0 0] 32)).alloc (.cells #[.slice none 0 0] 32)).alloc (.cells #[dp db] 164)).heap.size=W.heap.size+3:=by simp
 have hk0:af [] W (((W.alloc (.cells #[.slice none 0 0] 32)).alloc (.cells #[.slice none 0 0] 32)).alloc (.cells #[dp db] 164)):=(((af.refl _ W).alloc _).alloc _).alloc _;have hb0:(((W.alloc (.cells #[.slice none 0 0] 32)).alloc (.cells #[.slice none 0 0] 32)).alloc (.cells #[dp db] 164)).heap[W.heap.size]?=some (qn (.slice none 0 0)):=alloc_old _ (alloc_old _ (aG _ _))
 have hb1:(((W.alloc (.cells #[.slice none 0 0] 32)).alloc (.cells #[.slice none 0 0] 32)).alloc (.cells #[dp db] 164)).heap[W.heap.size+1]?=some (qn (.slice none 0 0)):=by have:=aG (W.alloc (.cells #[.slice none 0 0] 32)) (.cells #[.slice none 0 0] 32);rw[de] at this;exact alloc_old _ this
 have hb2:(((W.alloc (.cells #[.slice none 0 0] 32)).alloc (.cells #[.slice none 0 0] 32)).alloc (.cells #[dp db] 164)).heap[W.heap.size+1+1]?=some (.cells #[dp db] 164 (0,0)):=by have:=aG ((W.alloc (.cells #[.slice none 0 0] 32)).alloc (.cells #[.slice none 0 0] 32)) (.cells #[dp db] 164);rw[de,de] at this;exact this
 unfold dp at hz hk0 hb0 hb1 hb2;generalize ((W.alloc (.cells #[.slice none 0 0] 32)).alloc (.cells #[.slice none 0 0] 32)).alloc (.cells #[.pointer (some ⟨db,0,none⟩)] 164)=W2 at *
 have ME:=ae hk0;have c2:W2.cell? ⟨W.heap.size+1+1,0,none⟩=some (.pointer (some ⟨db,0,none⟩)):=by rw[ah hb2];rfl
 have FF:=ae (show ∀ X Y,(bu dty X db D∧J [] G0 H0 X)→KP (fun b=>G0 b∨b∈D.blocks db) X Y→(bu dty Y db D∧J [] G0 H0 Y) from fun X Y hx hk=>⟨hx.1.bY (fun b hb=>hk.block b (hx.1.lt b hb) (.inr hb)),HJ.out _ _ _ _ _ hx.2 (hk.mono (fun b _ hb=>.inl hb))⟩)
 have S6:=ae (show ∀ b,(G0 b∨b∈D.blocks db)→b<W.heap.size from fun b hb=>by
  rcases hb with hb|hb
  ·exact hG b hb
  ·exact H.out.lt b hb)
 refine fI (α:=List (DE ByteArray)) (xs:=D.old.drop D.cur++D.aW) (Rd:=fun b=>b=W.heap.size+1+1∨b∈D.blocks db) (encs:=fun l=>#[ptr l]) rfl h1 (gf:=348) (lb:=#[dp (W.heap.size+1+1)]) rfl trivial (enters_of (c:=_) Tryz.func348 (by kernel_rfl) rfl)
  (fun W' hk=>SH (n-1) _ db D W' (by omega) (kZ hk c2) hD ((H.out.keeps hk0 (by simp)).keeps (hk.keeps (bs:=[]) (fun _ _ _=>trivial)) (by simp))) (fun _=>rfl)
  (fun pre G H X=>∃ kv vv,EcI W.heap.size W.heap.size (W.heap.size+1) (fun b=>G0 b∨b∈D.blocks db) (fun X=>bu dty X db D∧J [] G0 H0 X) (pre.flatten.map (fun e=>e.k)) (pre.flatten.map (fun e=>e.v)) G H X kv vv)
  (fun b=>(G0 b∨b∈D.blocks db)∨b=W.heap.size∨b=W.heap.size+1) (fun b=>b=W.heap.size∨b=W.heap.size+1) ?hI ?h0 ?hG ?hH ?a1 ?assign ?body ?done
 case assign=>
  intro l x X K hK
  gi_wp2
  exact hK
 case hI=>rintro pre G H A B ⟨kv,vv,h1⟩ hk;exact⟨kv,vv,h1.lW FF.out hk⟩
 case h0=>
  refine⟨.slice none 0 0,.slice none 0 0,hb0,hb1,bF.nil _ _ _ _ _,bF.nil _ _ _ _ _,by simp[Value.ownBlock],⟨H.out.keeps hk0 (by simp),HJ.out _ _ _ _ _ ZG.out (KP.il hk0 (fun _ _ _=>by simp))⟩,?_,fun b hb=>.inl hb,?_,?_⟩
  ·rintro b (rfl|rfl)<;>omega
  ·rintro b (rfl|rfl|hb|hb)
   ·exact .inr (.inl rfl)
   ·exact .inr (.inr rfl)
   ·simp[Value.ownBlock] at hb
   ·simp[Value.ownBlock] at hb
  ·rintro b (rfl|rfl|hb|hb)
   ·exact .inl rfl
   ·exact .inr rfl
   ·simp[Value.ownBlock] at hb
   ·simp[Value.ownBlock] at hb
 case hG=>
  rintro b (hb|rfl|rfl)
  ·have:=S6.out b hb;omega
  ·omega
  ·omega
 case hH=>
  rintro b (rfl|rfl)
  ·refine⟨by omega,fun hb=>?_⟩
   rcases hb with hb|hb
   ·omega
   ·have:=H.out.lt _ hb;omega
  ·refine⟨by omega,fun hb=>?_⟩
   rcases hb with hb|hb
   ·omega
   ·have:=H.out.lt _ hb;omega
 case body=>
  rintro l pre x rest G H X hx ⟨kv,vv,hI⟩;have hall:=rE hD;rw[hx] at hall;have hlen:=congrArg List.length hall;rw[iX,List.flatten_cons,aM,aM,←hD.n] at hlen
  have hxm:x∈D.old∨x∈D.aW:=by
   have:x∈D.old.drop D.cur++D.aW:=by rw[hx];simp
   rcases bj.1 this with h|h
   ·exact .inl (kj h)
   ·exact .inr h
  have zB:=ae (show ∀ Y,bu dty Y db D→e9 dty Y x from fun Y hY=>by
   rcases hxm with h|h
   ·exact hY.ho.ch x h
   ·exact hY.hy.ch x h)
  have HI:=ae hI;have HLEN:=ae hlen;have SV:=ae hx;have hDn:=VT.out.bn;clear hI hlen hall hxm hx
  try dsimp only
  generalize hpx:ptr x=px
  have Vy:=ae hpx;clear hpx
  gi_wp2
  gi_loopg [5] x.length (fun g p Y=>∃ l1 l2,p=ptr l2∧Hid (x=l1++l2∧l2.length=g∧∃ kv vv,EcS W.heap.size W.heap.size (W.heap.size+1) (fun b=>G0 b∨b∈D.blocks db) (fun X=>bu dty X db D∧J [] G0 H0 X) (pre.flatten.map (fun e=>e.k)++l1.map (fun e=>e.k)) (pre.flatten.map (fun e=>e.v)++l1.map (fun e=>e.v)) G H X Y kv vv))
  case atStart=>exact⟨[],x,Vy.out.symm,ae ⟨rfl,rfl,kv,vv,by simpa using EcS.start HI.out⟩⟩
  case round=>
   obtain⟨l1,l2,rfl,HV⟩:=hrel;obtain⟨hxl,hg2,WK,Ww,hE⟩:=HV.out
   cases l2 with
   | nil=>
    unfold ptr;have HE:=ae hE;have Jh:=ae hxl;clear hE hxl
    gi_wp2
    obtain⟨⟨G2,H2,hI2,hg2,Ff⟩,hk2⟩:=HE.out;rw[cZ] at Jh;rw[←Jh.out] at hI2;refine⟨G2,H2,⟨WK,Ww,?_⟩,hg2,Ff,hk2⟩;rw[iX,List.flatten_cons,List.flatten_nil,cZ,aZ,aZ];exact hI2
   | cons e r=>
    obtain⟨⟨G1,H1,hI1,_,_⟩,_⟩:=id hE;have hch:=zB.out _ hI1.r.1;rw[hxl] at hch;obtain⟨Vg,Tv,YV⟩:=iI hch;obtain⟨ka,rl,hkv,_,_,_,_⟩:=hI1.kr.form;obtain⟨va,fD,hvv,_,_,_,_⟩:=hI1.vr.form;have Dl:=congrArg List.length hxl;rw[aM,List.length_cons] at Dl;have hln:=HLEN.out;have hks:(pre.flatten.map (fun e=>e.k)++l1.map (fun e=>e.k)).length=pre.flatten.length+l1.length:=by rw[aM,aU,aU]
    have hvs:(pre.flatten.map (fun e=>e.v)++l1.map (fun e=>e.v)).length=pre.flatten.length+l1.length:=by rw[aM,aU,aU]
    rw[hks] at hkv;rw[hvs] at hvv;obtain⟨kn,hkn⟩:∃ kn,kn=pre.flatten.length+l1.length:=⟨_,rfl⟩;rw[←hkn] at hkv hvv hks hvs;have hm1:kn+1≤maxLen:=by unfold maxLen;omega
    have hm2:(kn+1)*16≤140737488355328:=by omega
    have MA:=ae hks.symm;have HVS:=ae hvs.symm;subst hkv hvv;have HE:=ae hE;have xD:=ae hxl;have zu:=ae hg2;have hbk:=hlt hI1.k;have uJ:W.heap.size≤wr.drew.heap.size:=by show W.heap.size≤wr.heap.size;omega
    have ck:wr.cell? ⟨W.heap.size,0,none⟩=some (.slice ka kn rl):=by rw[ah hI1.k];rfl
    have YU:(wr.alloc (.cells #[.string e.k] 9)).cell? ⟨W.heap.size,0,none⟩=some (.slice ka kn rl):=kZ ((KP.refl _ _).alloc _) ck;have fN:=ae (show bF b9 1 9 W.heap.size wr.drew (.slice ka kn rl) (pre.flatten.map (fun e=>e.k)++l1.map (fun e=>e.k)) from hI1.kr.bY (fun _ _=>rfl));have kN:=MA;have fC:=ae (fun g cap w5 (hp:eW b9 1 9 W.heap.size wr.drew w5 (.slice ka kn rl) (pre.flatten.map (fun e=>e.k)++l1.map (fun e=>e.k)) e.k g kn cap)=>hE.pk FF.out S6.out (by omega) hp);clear hE hI1 hch hxl hks hvs hg2 Dl hln HI Tv YV hkn;unfold ptr
    gi_wp2
    gi_cut [] from 49 (fun Y=>Hid (∃ kv' Wx,EcS W.heap.size W.heap.size (W.heap.size+1) (fun b=>G0 b∨b∈D.blocks db) (fun X=>bu dty X db D∧J [] G0 H0 X) ((pre.flatten.map (fun e=>e.k)++l1.map (fun e=>e.k))++[e.k]) (pre.flatten.map (fun e=>e.v)++l1.map (fun e=>e.v)) G H X Y kv' Wx))
    case first=>
      refine lJ (by kernel_rfl) (by rintro⟨a,w,h⟩;exact h) (by kernel_rfl) ?_;refine bV (i:=1) (v:=?v1) rfl (by kernel_rfl) (by kernel_rfl) (by kernel_rfl) (fun _ _ _ h=>h) (Or.inl ⟨by rfl,?hy1⟩) ?CM
      case hy1=>intro w;go_simp;first|done|with_reducible rfl
      case CM=>
       refine bV (i:=2) (v:=?v2) rfl (by kernel_rfl) (by kernel_rfl) (by kernel_rfl) (fun _ _ _ h=>h) (Or.inl ⟨by rfl,?hy2⟩) ?CL
       case hy2=>intro w;go_simp;first|done|with_reducible rfl
       case CL=>
        refine bV (i:=3) (v:=?v3) rfl (by kernel_rfl) (by kernel_rfl) (by kernel_rfl) (fun _ _ _ h=>h) (Or.inl ⟨by rfl,?hy3⟩) ?CJ
        case hy3=>intro w;go_simp;first|done|with_reducible rfl
        case CJ=>
         refine aO (rs:=[0,4]) (by kernel_rfl) (by simp) ?_;refine aC rfl (fun K hK=>?_) ?_
         ·go_simp;refine hK _ _ ?_;clear hK K;refine aO (rs:=[4]) (by kernel_rfl) (by simp) ?_;refine aC rfl (fun K hK=>?_) ?_
          ·go_simp;refine hK _ _ ?_;clear hK K;refine aO (rs:=[5]) (by kernel_rfl) (by simp) ?_;refine aC rfl (fun K hK=>?_) ?_
           ·go_simp;refine hK _ _ ?_;clear hK K;refine aO (rs:=[6]) (by kernel_rfl) (by simp) ?_;refine aC rfl (fun K hK=>?_) ?_
            ·refine ei rfl _ _ 32 rfl b9 1 9 W.heap.size i9 (.string ByteArray.empty) 16 Tryz.underlying32 hi9 iV iA im rfl dR (.slice ka kn rl) kn _ e.k rfl fN.out kN.out 9 rfl 1 rfl hm1 hm2 uJ ?_;intro g cap w5 hp;obtain⟨⟨u5,o5⟩,f5,hfin⟩:=fC.out g cap w5 hp;have HF:=ae hfin;clear hp hfin;refine hK _ _ ?_;clear hK K;refine aO (rs:=[7]) (by kernel_rfl) (by simp) ?_;refine aC rfl (fun K hK=>?_) ?_
             ·go_simp;refine hK _ _ ?_;clear hK K;refine dH (by kernel_rfl) ?_ _
              gi_wp2;gi_meet;exact ae ⟨_,_,HF.out⟩
             exact aH
            exact aH
           exact aH
          exact aH
         refine aC rfl (fun K hK=>?_) ?_
         ·go_simp;refine hK _ _ ?_;clear hK K;refine aO (rs:=[0,5]) (by kernel_rfl) (by simp) ?_;refine aC rfl (fun K hK=>?_) ?_
          ·go_simp;refine hK _ _ ?_;clear hK K;refine aO (rs:=[5]) (by kernel_rfl) (by simp) ?_;refine aC rfl (fun K hK=>?_) ?_
           ·go_simp;refine hK _ _ ?_;clear hK K;refine aO (rs:=[6]) (by kernel_rfl) (by simp) ?_;refine aC rfl (fun K hK=>?_) ?_
            ·refine ei rfl _ _ 32 rfl b9 1 9 W.heap.size i9 (.string ByteArray.empty) 16 Tryz.underlying32 hi9 iV iA im rfl dR (.slice ka kn rl) kn _ e.k rfl fN.out kN.out 9 rfl 1 rfl hm1 hm2 uJ ?_;intro g cap w5 hp;obtain⟨⟨u5,o5⟩,f5,hfin⟩:=fC.out g cap w5 hp;have HF:=ae hfin;clear hp hfin;refine hK _ _ ?_;clear hK K;refine aO (rs:=[7]) (by kernel_rfl) (by simp) ?_;refine aC rfl (fun K hK=>?_) ?_
             ·go_simp;refine hK _ _ ?_;clear hK K;refine dH (by kernel_rfl) ?_ _
              gi_wp2;gi_meet;exact ae ⟨_,_,HF.out⟩
             exact aH
            exact aH
           exact aH
          refine aC rfl (fun K hK=>?_) ?_
          ·go_simp;refine hK _ _ ?_;clear hK K;refine aO (rs:=[0]) (by kernel_rfl) (by simp) ?_;refine aC rfl (fun K hK=>?_) ?_
           ·go_simp;refine hK _ _ ?_;clear hK K;refine aO (rs:=[6]) (by kernel_rfl) (by simp) ?_;refine aC rfl (fun K hK=>?_) ?_
            ·refine ei rfl _ _ 32 rfl b9 1 9 W.heap.size i9 (.string ByteArray.empty) 16 Tryz.underlying32 hi9 iV iA im rfl dR (.slice ka kn rl) kn _ e.k rfl fN.out kN.out 9 rfl 1 rfl hm1 hm2 uJ ?_;intro g cap w5 hp;obtain⟨⟨u5,o5⟩,f5,hfin⟩:=fC.out g cap w5 hp;have HF:=ae hfin;clear hp hfin;refine hK _ _ ?_;clear hK K;refine aO (rs:=[7]) (by kernel_rfl) (by simp) ?_;refine aC rfl (fun K hK=>?_) ?_
             ·go_simp;refine hK _ _ ?_;clear hK K;refine dH (by kernel_rfl) ?_ _
              gi_wp2;gi_meet;exact ae ⟨_,_,HF.out⟩
             exact aH
            exact aH
           exact aH
          exact aH
         exact aH
    case rest=>
     obtain⟨kv3,vv3,hE⟩:=hcut.out;obtain⟨⟨G1,H1,hI1,_,_⟩,_⟩:=id hE;have hch:=zB.out _ hI1.r.1;rw[xD.out] at hch;obtain⟨Vg,Tv,YV⟩:=iI hch;obtain⟨va,fD,hvv,_,_,_,_⟩:=hI1.vr.form;rw[←HVS.out] at hvv;subst hvv;have hbk:=hlt hI1.k;have uJ:W.heap.size≤wc.drew.heap.size:=by show W.heap.size≤wc.heap.size;omega
     have ck:wc.cell? ⟨W.heap.size+1,0,none⟩=some (.slice va kn fD):=by rw[ah hI1.v];rfl
     have YU:(wc.alloc (.cells #[.string e.v] 9)).cell? ⟨W.heap.size+1,0,none⟩=some (.slice va kn fD):=kZ ((KP.refl _ _).alloc _) ck;have fN:=ae (show bF b9 1 9 W.heap.size wc.drew (.slice va kn fD) (pre.flatten.map (fun e=>e.v)++l1.map (fun e=>e.v)) from hI1.vr.bY (fun _ _=>rfl));have kN:=HVS;have fC:=ae (fun g cap w5 (hp:eW b9 1 9 W.heap.size wc.drew w5 (.slice va kn fD) (pre.flatten.map (fun e=>e.v)++l1.map (fun e=>e.v)) e.v g kn cap)=>hE.pv FF.out S6.out (by omega) hp);obtain⟨q,hq⟩:=ks.sw r;have HQ:=ae hq
     have pX:=ae (show ∀ Y kv vv,EcS W.heap.size W.heap.size (W.heap.size+1) (fun b=>G0 b∨b∈D.blocks db) (fun X=>bu dty X db D∧J [] G0 H0 X) ((pre.flatten.map (fun e=>e.k)++l1.map (fun e=>e.k))++[e.k]) ((pre.flatten.map (fun e=>e.v)++l1.map (fun e=>e.v))++[e.v]) G H X Y kv vv→Y.cell? ⟨e.b,2,none⟩=some (.pointer q) from fun Y kv vv hY=>by
      obtain⟨⟨G2,H2,hI2,_,_⟩,_⟩:=hY;have hch:=zB.out _ hI2.r.1;rw[xD.out] at hch;rw[←HQ.out]
      exact(iI hch).2.2)
     clear hE hI1 hch Vg YV hq hcut
     gi_wp2
     refine lJ (by kernel_rfl) (by rintro⟨a,w,h⟩;exact h) (by kernel_rfl) ?_;refine bV (i:=1) (v:=?vb1) rfl (by kernel_rfl) (by kernel_rfl) (by kernel_rfl) (fun _ _ _ h=>h) (Or.inl ⟨by rfl,?RI⟩) ?Ez
     case RI=>intro w;go_simp;first|done|with_reducible rfl
     case Ez=>
      refine bV (i:=2) (v:=?vb2) rfl (by kernel_rfl) (by kernel_rfl) (by kernel_rfl) (fun _ _ _ h=>h) (Or.inl ⟨by rfl,?RH⟩) ?Ey
      case RH=>intro w;go_simp;first|done|with_reducible rfl
      case Ey=>
       refine bV (i:=3) (v:=?vb3) rfl (by kernel_rfl) (by kernel_rfl) (by kernel_rfl) (fun _ _ _ h=>h) (Or.inl ⟨by rfl,?Xi⟩) ?Qs
       case Xi=>intro w;go_simp;first|done|with_reducible rfl
       case Qs=>
        refine aO (rs:=[0,4]) (by kernel_rfl) (by simp) ?_;refine aC rfl (fun K hK=>?_) ?_
        ·go_simp;refine hK _ _ ?_;clear hK K;refine aO (rs:=[4]) (by kernel_rfl) (by simp) ?_;refine aC rfl (fun K hK=>?_) ?_
         ·go_simp;refine hK _ _ ?_;clear hK K;refine aO (rs:=[5]) (by kernel_rfl) (by simp) ?_;refine aC rfl (fun K hK=>?_) ?_
          ·go_simp;refine hK _ _ ?_;clear hK K;refine aO (rs:=[6]) (by kernel_rfl) (by simp) ?_;refine aC rfl (fun K hK=>?_) ?_
           ·refine ei rfl _ _ 32 rfl b9 1 9 W.heap.size i9 (.string ByteArray.empty) 16 Tryz.underlying32 hi9 iV iA im rfl dR (.slice va kn fD) kn _ e.v rfl fN.out kN.out 9 rfl 1 rfl hm1 hm2 uJ ?_;intro g cap w5 hp;obtain⟨⟨u5,o5⟩,f5,hfin⟩:=fC.out g cap w5 hp;have HF:=ae hfin;have cn:=pX.out _ _ _ hfin;clear hp hfin;refine hK _ _ ?_;clear hK K;refine aO (rs:=[7]) (by kernel_rfl) (by simp) ?_;refine aC rfl (fun K hK=>?_) ?_
            ·go_simp;refine hK _ _ ?_;clear hK K;refine dH (by kernel_rfl) ?_ _
             gi_wp2
             gi_roundg r.length
             case measure=>have:=zu.out;simp at this;omega
             case rel=>exact⟨l1++[e],r,HQ.out.symm,ae ⟨by rw[xD.out];simp,rfl,_,_,by simpa using HF.out⟩⟩
            exact aH
           exact aH
          exact aH
         exact aH
        refine aC rfl (fun K hK=>?_) ?_
        ·go_simp;refine hK _ _ ?_;clear hK K;refine aO (rs:=[0,5]) (by kernel_rfl) (by simp) ?_;refine aC rfl (fun K hK=>?_) ?_
         ·go_simp;refine hK _ _ ?_;clear hK K;refine aO (rs:=[5]) (by kernel_rfl) (by simp) ?_;refine aC rfl (fun K hK=>?_) ?_
          ·go_simp;refine hK _ _ ?_;clear hK K;refine aO (rs:=[6]) (by kernel_rfl) (by simp) ?_;refine aC rfl (fun K hK=>?_) ?_
           ·refine ei rfl _ _ 32 rfl b9 1 9 W.heap.size i9 (.string ByteArray.empty) 16 Tryz.underlying32 hi9 iV iA im rfl dR (.slice va kn fD) kn _ e.v rfl fN.out kN.out 9 rfl 1 rfl hm1 hm2 uJ ?_;intro g cap w5 hp;obtain⟨⟨u5,o5⟩,f5,hfin⟩:=fC.out g cap w5 hp;have HF:=ae hfin;have cn:=pX.out _ _ _ hfin;clear hp hfin;refine hK _ _ ?_;clear hK K;refine aO (rs:=[7]) (by kernel_rfl) (by simp) ?_;refine aC rfl (fun K hK=>?_) ?_
            ·go_simp;refine hK _ _ ?_;clear hK K;refine dH (by kernel_rfl) ?_ _
             gi_wp2
             gi_roundg r.length
             case measure=>have:=zu.out;simp at this;omega
             case rel=>exact⟨l1++[e],r,HQ.out.symm,ae ⟨by rw[xD.out];simp,rfl,_,_,by simpa using HF.out⟩⟩
            exact aH
           exact aH
          exact aH
         refine aC rfl (fun K hK=>?_) ?_
         ·go_simp;refine hK _ _ ?_;clear hK K;refine aO (rs:=[0]) (by kernel_rfl) (by simp) ?_;refine aC rfl (fun K hK=>?_) ?_
          ·go_simp;refine hK _ _ ?_;clear hK K;refine aO (rs:=[6]) (by kernel_rfl) (by simp) ?_;refine aC rfl (fun K hK=>?_) ?_
           ·refine ei rfl _ _ 32 rfl b9 1 9 W.heap.size i9 (.string ByteArray.empty) 16 Tryz.underlying32 hi9 iV iA im rfl dR (.slice va kn fD) kn _ e.v rfl fN.out kN.out 9 rfl 1 rfl hm1 hm2 uJ ?_;intro g cap w5 hp;obtain⟨⟨u5,o5⟩,f5,hfin⟩:=fC.out g cap w5 hp;have HF:=ae hfin;have cn:=pX.out _ _ _ hfin;clear hp hfin;refine hK _ _ ?_;clear hK K;refine aO (rs:=[7]) (by kernel_rfl) (by simp) ?_;refine aC rfl (fun K hK=>?_) ?_
            ·go_simp;refine hK _ _ ?_;clear hK K;refine dH (by kernel_rfl) ?_ _
             gi_wp2
             gi_roundg r.length
             case measure=>have:=zu.out;simp at this;omega
             case rel=>exact⟨l1++[e],r,HQ.out.symm,ae ⟨by rw[xD.out];simp,rfl,_,_,by simpa using HF.out⟩⟩
            exact aH
           exact aH
          exact aH
         exact aH
        exact aH
 case done=>
  rintro Dd G H X YH ⟨kv,vv,hI⟩ Oe hk hd;rw[rE hD] at hI;obtain⟨ka,rl,hkv,_,_,_,hka⟩:=hI.kr.form;obtain⟨va,fD,hvv,_,_,_,hva⟩:=hI.vr.form;rw[aU] at hkv hvv hka hva;have Tt:=hlt hd;have hall:=hD.n;have hbn:=VT.out.bn
  have MD:=ae (show ∀ Y,KP (fun b=>¬H0 b) X Y→bF b9 1 9 W.heap.size Y kv (D.all.map (fun e=>e.k))∧bF b9 1 9 W.heap.size Y vv (D.all.map (fun e=>e.v))∧Y.heap[W.heap.size+1]?=some (qn vv) from fun Y hY=>by
   have hlo:∀ b,W.heap.size≤b→¬H0 b:=fun b hb hc=>by have:=(hH b hc).1;omega
   exact⟨hI.kr.bY (fun b hb=>hY.block b (hI.kr.lt b hb).2 (hlo b (hI.kr.lt b hb).1)),hI.vr.bY (fun b hb=>hY.block b (hI.vr.lt b hb).2 (hlo b (hI.vr.lt b hb).1)),(hY.block _ (hlt hI.v) (hlo _ (by omega))).trans hI.v⟩)
  obtain⟨m,hm⟩:∃ m,D.all.length=m:=⟨_,rfl⟩;rw[hm] at hkv hvv hka hva;have hmb:m≤8796093022208:=by omega
  have ck:X.cell? ⟨W.heap.size,0,none⟩=some (.slice ka m rl):=by rw[ah hI.k,hkv];rfl
  have ZW:=ae (show ∀ Y,KP (fun b=>¬H0 b) X Y→∀ i e,D.all[i]?=some e→∃ g h,ka=some ⟨g,0,none⟩∧va=some ⟨h,0,none⟩∧Y.cell? ⟨g,i,none⟩=some (.string e.k)∧Y.cell? ⟨W.heap.size+1,0,none⟩=some (.slice va m fD)∧Y.cell? ⟨h,i,none⟩=some (.string e.v) from fun Y hY i e he=>by
   obtain⟨r1,r2,r3⟩:=MD.out Y hY;have hpos:0<m:=by have:=(au.1 he).1;omega
   obtain⟨g,hg⟩:=hka hpos;obtain⟨h,hh⟩:=hva hpos;rw[hkv,hg] at r1;rw[hvv,hh] at r2;refine⟨g,h,hg,hh,?_,by rw[ah r3,hvv];rfl,?_⟩
   ·have:=bF.cell (enc:=b9) (fun _=>rfl) r1 (i:=i) (x:=e.k) (by rw[bK,he];rfl) (j:=0) (u:=.string e.k) rfl
    rwa [bB,Nat.add_zero] at this
   ·have:=bF.cell (enc:=b9) (fun _=>rfl) r2 (i:=i) (x:=e.v) (by rw[bK,he];rfl) (j:=0) (u:=.string e.v) rfl
    rwa [bB,Nat.add_zero] at this)
  have Ea:Hid (AmR J G0 H0 X D.all 0 X):=ae ⟨⟨G0,H0,hI.r.2,fun b hb=>.inl hb,fun b hb=>.inl hb⟩,KP.refl _ _⟩;have HK:=ae hk;have HHX:=ae Oe;have xX:=ae hd;have HM:=ae hm;clear hI hkv hvv hka hva hk Oe hd hm hall hbn
  gi_wp2
  gi_loopw [35,6,7] (fun i _ _ Y=>∃ k:Nat,i=.int .i64 (k:Int)∧k≤m∧Hid (AmR J G0 H0 X D.all k Y)) (fun i _ _ _=>m-(intOf i).toNat)
  case atStart=>exact⟨0,rfl,bz _,Ea⟩
  case round=>
   obtain⟨k,rfl,hk,HV⟩:=hrel;clear ck
   by_cases hlt:k<m
   ·obtain⟨e,he⟩:∃ e,D.all[k]?=some e:=⟨_,ag (by rw[HM.out];exact hlt)⟩;obtain⟨g,h,rfl,rfl,d1,d2,d3⟩:=ZW.out wr HV.out.kp k e he;have hkn:(k:Int)<(m:Int):=by omega
    obtain⟨⟨G1,H1,hjj,hgg,xQ⟩,hkp⟩:=HV.out;obtain⟨fn,tmps,assign,body,hy,hR⟩:=HY.out _ _ _ G1 H1 wr (lH he) hjj;have ZM:=ae hgg;have Cs:=ae xQ;have FH:=ae hkp;have Mv:=ae he;have HR:=ae hR;clear hgg xQ hkp he hjj hR
    gi_wp2
    refine HR.out.mono ?_;rintro e2 W3 ⟨rfl,hr⟩;have I:Hid (AmR J G0 H0 X D.all (k+1) W3):=ae (AmR.step FH.out ZM.out Cs.out Mv.out hr);clear hr hy d1 d2 d3
    gi_wp2
    refine⟨⟨k+1,rfl,by omega,I⟩,?_⟩;simp[intOf];omega
   ·obtain rfl:k=m:=by omega
    gi_wp2
    obtain⟨⟨G1,H1,hjj,hgg,xQ⟩,hkp⟩:=HV.out;have hlo:¬H0 Dd:=fun hc=>by have:=(hH Dd hc).1;omega
    have hd3:wr.heap[Dd]?=some (.deferred (some [])):=(hkp.block Dd Tt hlo).trans xX.out;refine⟨by simp,.inl ⟨_,_,rfl,ky hd3,?_⟩⟩;rw[aE (by rw[HM.out];exact aq _)] at hjj;refine⟨_,kz rfl _ _ _,⟨_,rfl⟩,G1,H1,?_,fun b hb=>(xQ b hb).imp id (fun h=>by have:=HK.out.size;omega),?_⟩
    ·refine HJ.out _ _ _ _ _ hjj ((KP.refl _ _).putObj (fun hc=>?_) _)
     rcases hgg Dd hc.2 with h2|h2
     ·have:=hG Dd h2;omega
     ·omega
    ·have k1:KP (fun b=>¬H0 b) W X:=(KP.il ME.out (fun _ _ _=>by simp)).uU HK.out (fun b hb _ hc=>by omega);exact(k1.trans hkp).putObj (fun hc=>by omega) _
end jw.sd
namespace jw.sd
open ks (af ae hlt ah bC alloc_old aG aX aT dp DM DE bu TabIs ptr fJ lq)
structure kb (B:Nat) (w:World) (rb db:Nat) (D:DM ByteArray) (cost:Nat) (ps:List (ByteArray×ByteArray)):Prop where
 hd:w.heap[rb]?=some (.cells #[.int .u64 (D.seed:Int),dp db,.int .i64 (cost:Int)] 167 (0,0))
 d:bu dty w db D
 wf:D.WF
 lo:∀ b∈D.blocks db,B≤b
 b:B≤rb
 ne:rb∉D.blocks db
 all:(D.all.map (fun e=>(e.k,e.v))).Perm ps
 cost:cost≤4194304*ps.length
theorem kb.n {B:Nat} {w:World} {rb db:Nat} {D:DM ByteArray} {cost:Nat} {ps:List (ByteArray×ByteArray)} (h:kb B w rb db D cost ps):D.n=ps.length:=by rw[h.wf.n,←h.all.length_eq,aU]
theorem kb.aN {B:Nat} {w w':World} {rb db:Nat} {D:DM ByteArray} {cost:Nat} {ps:List (ByteArray×ByteArray)} (h:kb B w rb db D cost ps) (hk:af [] w w'):kb B w' rb db D cost ps:=⟨hk.get h.hd (by simp),h.d.keeps hk (by simp),h.wf,h.lo,h.b,h.ne,h.all,h.cost⟩
theorem kb.new {B:Nat} {w:World} {rb db:Nat} {D:DM ByteArray} {cost:Nat} {ps:List (ByteArray×ByteArray)} (h:kb B w rb db D cost ps) {k:ByteArray} (hk:∀ p∈ps,p.1≠k):∀ e∈D.all,e.k≠k:=fun e he=>hk (e.k,e.v) (h.all.mem_iff.1 (aV.2 ⟨e,he,rfl⟩))
theorem LS (seed:Nat) (w:World):Calls Tryz.prog 96 #[.int .u64 (seed:Int)] w fun r w'=>r=.returned (dp w.heap.size)∧w.alloc (lq dty (DM.new seed))=w':=by
 unfold dp;go_enter Tryz.func96,Tryz.ntmps96
 go_wp2
 go_ret;exact⟨rfl,rfl⟩
theorem zc {w:World} (seed:Nat) (hs:seed<18446744073709551616):bu dty (w.alloc (lq dty (DM.new seed))) w.heap.size (DM.new seed):=⟨aG w _,TabIs.nil _ _,TabIs.nil _ _,by simp[DM.blocks,DM.new,ks.cg],hs,by simp[DM.all,DM.new],by simp[DM.new],by simp[DM.new],by simp[DM.new]⟩
theorem Ns (seed:Nat) (w:World) (hs:seed<18446744073709551616):Calls Tryz.prog 55 #[.int .u64 (seed:Int)] w fun r w'=>r=.returned (dp (w.heap.size+1))∧kb w.heap.size w' (w.heap.size+1) w.heap.size (DM.new seed) 0 []∧af [] w w':=by
 have HN:=ae (LS seed w);unfold dp at HN;go_enter Tryz.func55,Tryz.ntmps55
 go_wp2_with fail
 refine HN.out.mono ?_;rintro r w1 ⟨rfl,hw1⟩;have hz:w1.heap.size=w.heap.size+1:=by rw[←hw1];simp
 have hd:bu dty w1 w.heap.size (DM.new seed):=by rw[←hw1];exact zc seed hs
 have hk:af [] w w1:=by rw[←hw1];exact(af.refl _ _).alloc _
 have HZ:=ae hz;have HD:=ae hd;have HK:=ae hk;clear hw1 hz hd hk;go_wp2_with fail
 go_ret;refine⟨by rw[HZ.out];rfl,⟨?_,HD.out.keeps ((af.refl [] _).alloc _) (by simp),ks.DM.ER seed,?_,by omega,?_,by simp[DM.all,DM.new],by simp⟩,HK.out.alloc _⟩
 ·have:=aG w1 (.cells #[.int .u64 (seed:Int),dp w.heap.size,.int .i64 0] 167);rw[HZ.out] at this;exact this
 ·intro b hb;simp[DM.blocks,DM.new,ks.cg] at hb;omega
 ·simp[DM.blocks,DM.new,ks.cg]
theorem SB (k v:ByteArray) (w:World) (hk:k.size≤1048576) (hv:v.size≤1048576):Calls Tryz.prog 98 #[.string k,.string v] w fun r w'=>r=.returned (.int .i64 ((32+k.size+v.size:Nat):Int))∧w'=w:=by
 go_enter Tryz.func98,Tryz.ntmps98
 go_wp2
 go_ret;exact⟨rfl,rfl⟩
theorem GI (db n:Nat) (w:World) (h:w.cell? ⟨db,4,none⟩=some (.int .i64 (n:Int))):Calls Tryz.prog 99 #[dp db] w fun r w'=>r=.returned (.int .i64 (n:Int))∧w=w':=by
 unfold dp;go_enter Tryz.func99,Tryz.ntmps99
 go_wp2
 go_ret;exact⟨rfl,rfl⟩
theorem F6 (B rb db:Nat) (D:DM ByteArray) (cost:Nat) (ps:List (ByteArray×ByteArray)) (w:World) (h:kb B w rb db D cost ps):Calls Tryz.prog 337 #[dp rb] w fun r w'=>r=.returned (.int .i64 (ps.length:Int))∧w=w':=by
 have c1:w.cell? ⟨rb,1,none⟩=some (dp db):=by rw[ah h.hd];rfl
 have HL:=ae (GI db D.n w h.d.c4);rw[h.n] at HL;unfold dp at c1 HL ⊢;clear h;go_enter Tryz.func337,Tryz.ntmps337
 go_wp2_with fail
 refine HL.out.mono ?_;rintro r w2 ⟨rfl,rfl⟩;go_wp2_with fail
 go_ret;exact⟨rfl,rfl⟩
theorem kb.uZ {B:Nat} {w w1:World} {rb db:Nat} {D:DM ByteArray} {cost:Nat} {ps:List (ByteArray×ByteArray)} (h:kb B w rb db D cost ps) (hd:bu dty w1 db D.step) (hk:af (D.blocks db) w w1):kb B w1 rb db D.step cost ps:=by
 obtain⟨hw1,hsp,hsd,hsn⟩:=ks.DM.fE h.wf;obtain⟨xb,hxb⟩:=ks.DM.lz h.wf db;have hsub:∀ b∈D.step.blocks db,b∈D.blocks db:=fun b hb=>hxb.mem_iff.1 (bh _ hb)
 refine⟨?_,hd,hw1,fun b hb=>h.lo b (hsub b hb),h.b,fun hb=>h.ne (hsub _ hb),(hsp.map _).trans h.all,h.cost⟩;rw[hsd];exact hk.get h.hd h.ne
theorem kb.find {B:Nat} {w:World} {rb db:Nat} {D:DM ByteArray} {cost:Nat} {ps:List (ByteArray×ByteArray)} (h:kb B w rb db D cost ps) {k:ByteArray} (hk:∀ p∈ps,p.1≠k):D.find k=none:=by
 rw[ks.DM.find_eq h.wf]
 cases hf:ks.eF D.all k with
 | none=>rfl
 | some e=>obtain⟨he,rfl⟩:=ks.fL hf;exact absurd rfl (h.new hk e he)
theorem AZ {α:Type} {D:DM α} (h:D.WF) {k:ByteArray} (v:α) (tb nb:Nat) (hf:∀ e∈D.all,e.k≠k):
  (D.set k v tb nb).WF∧(D.set k v tb nb).all.Perm (⟨nb,k,v⟩::D.all)∧(D.set k v tb nb).seed=D.seed:=by
 obtain⟨s1,s2,s3,s4⟩:=ks.DM.fE h;have hf2:∀ e∈D.step.all,e.k≠k:=fun e he=>hf e (s2.mem_iff.1 he)
 obtain⟨p1,p2,p3⟩:=ks.DM.Nv s1 v tb nb hf2;refine⟨p1,p2.trans (List.Perm.cons _ s2),?_⟩
 show(D.step.put k v tb nb).seed=_
 obtain⟨g1,g2,g3,g4,g5⟩:=ks.DM.lA s1 tb;rw[ks.DM.mz s1 v tb nb hf2,(ks.DM.sY g1 g5 ⟨nb,k,v⟩ (by rw[g2];exact hf2)).2.2.1,g3,s3]
set_option maxRecDepth 8000 in
theorem Nr (B rb db:Nat) (D:DM ByteArray) (cost:Nat) (ps:List (ByteArray×ByteArray)) (k v:ByteArray) (w:World) (h:kb B w rb db D cost ps) (hB:B≤w.heap.size) (hk:∀ p∈ps,p.1≠k) (hks:k.size≤1048576) (hvs:v.size≤1048576) (hn:ps.length<1048576):
  Calls Tryz.prog 56 #[dp rb,.string k,.string v] w fun r w'=>(∃ u,r=.returned u)∧∃ D' j7,kb B w' rb db D' j7 (ps++[(k,v)])∧Below B w w':=by
 have H:=ae h;have HB:=ae hB;have MC:=ae hk;have c1:w.cell? ⟨rb,1,none⟩=some (dp db):=by rw[ah h.hd];rfl
 have hml:k.size≤maxLen:=by unfold maxLen;omega
 have zz:=ae hml;have vX:=ae (ks.sd.Lx db D k w h.wf h.d hml)
 have hfind:D.step.find k=none:=by rw[ks.DM.find_eq (ks.DM.fE h.wf).1,ks.lS (ks.DM.fE h.wf).2.1 (ks.DM.fE h.wf).1.keys,←ks.DM.find_eq h.wf];exact h.find hk
 rw[hfind] at vX;have HCO:=ae (fun W=>SB k v W hks hvs);have xW:=ae hn;have kM:=ae hks;have sb:=ae hvs;have yV:=h.cost;clear h hk hfind hB;unfold dp at c1 vX ⊢;unfold ks.sd.Dx at vX;go_enter Tryz.func56,Tryz.ntmps56
 go_wp2_with fail
 refine vX.out.mono ?_;rintro r w1 ⟨rfl,hd1,hk1⟩;have h1:=H.out.uZ hd1 hk1;have hb1:Below B w w1:=hk1.ep HB.out H.out.lo;have H1:=ae h1;have HB1:=ae hb1;have d1:w1.cell? ⟨rb,1,none⟩=some (.pointer (some ⟨db,0,none⟩)):=by rw[ah h1.hd];rfl
 have d2:w1.cell? ⟨rb,2,none⟩=some (.int .i64 (cost:Int)):=by rw[ah h1.hd];rfl
 have f2:w1.frozen? ⟨rb,2,none⟩=false:=bC h1.hd 2;have HLEN:=ae (GI db D.step.n w1 h1.d.c4);obtain⟨m,hm⟩:∃ m,m=ps.length:=⟨_,rfl⟩;rw[h1.n,←hm] at HLEN;have X6:(m:Int)<1048576:=by omega
 have aau:cost≤4194304*1048576:=by omega
 unfold dp at HLEN;clear h1 hb1 hd1 hk1 c1 hn hm yV;go_wp2_with fail
 refine HLEN.out.mono ?_;rintro r w2 ⟨rfl,rfl⟩;have hnn:decide (1048576≤(m:Int))=false:=by simp;omega
 obtain⟨cst,hcs⟩:∃ cst,cst=cost+(32+k.size+v.size):=⟨_,rfl⟩;have hcs2:cst≤1152921504606846976:=by omega
 have hwc:IntKind.i64.wrap (cst:Int)=(cst:Int):=by rw[cH];omega
 have hsum:(cost:Int)+((32+k.size+v.size:Nat):Int)=(cst:Int):=by omega
 have Ce:=ae hsum;have HCS:=ae hcs;obtain⟨ck,hck⟩:∃ ck,ck=((32+k.size+v.size:Nat):Int):=⟨_,rfl⟩;rw[←hck] at HCO Ce;have l9:=ae (fun(W:World) (h:bu ks.sd.dty W db D.step)=>ks.sd.JL db D.step k v W H1.out.wf h zz.out (by have:=H1.out.n;have:=xW.out;omega));unfold dp at l9;clear hsum hcs hck;go_wp2_with fail
 go_still_tail 10,(by kernel_rfl)
 still_call (HCO.out _)
 have Ux:(cost:Int)+ck=(cst:Int):=Ce.out
 repeat still_step
 refine wpStill_nil ?_;go_wp2_with fail
 obtain⟨W2,hW2⟩:∃ W2,W2=(w1.setCell ⟨rb,2,none⟩ (.int .i64 (cst:Int))).drew:=⟨_,rfl⟩;have hk2:af [rb] w1 W2:=by rw[hW2];exact((af.refl _ w1).setCell (p:=⟨rb,2,none⟩) (.inl (by simp)) _).drew
 have hr2:W2.heap[rb]?=some (.cells #[.int .u64 (D.step.seed:Int),dp db,.int .i64 (cst:Int)] 167 (0,0)):=by
  rw[hW2]
  show(w1.setCell ⟨rb,2,none⟩ (.int .i64 (cst:Int))).heap[rb]?=_
  rw[aX H1.out.hd 2 _];rfl
 have hd2:bu ks.sd.dty W2 db D.step:=H1.out.d.keeps hk2 (fun b hb hm=>by simp at hm;exact H1.out.ne (hm ▸ hb));have Te:=ae hk2;have HR2:=ae hr2;rw[←hW2];refine(l9.out W2 hd2).mono ?_;clear hW2 hk2 hr2 hd2 d1 d2 f2;rintro r w3 ⟨b,tb,nb,rfl,hd3,hk3,hb3⟩;have HD3:=ae hd3;have zt:=ae hk3;have HB3:=ae hb3;clear hd3 hk3 hb3;go_wp2_with fail
 go_ret2
 have hB2:Below B w1 W2:=Te.out.ep (aF HB.out HB1.out.size) (fun b hb=>by simp at hb;rw[hb];exact H1.out.b);obtain⟨s1,s2,s3⟩:=AZ H1.out.wf v tb nb (H1.out.new MC.out);refine⟨⟨_,rfl⟩,D.step.set k v tb nb,cst,⟨?_,HD3.out,s1,?_,H1.out.b,?_,?_,?_⟩,(HB1.out.trans hB2).trans (zt.out.ep (aF HB.out (aF HB1.out.size hB2.size)) H1.out.lo)⟩
 ·rw[s3];exact zt.out.get HR2.out H1.out.ne
 ·intro b hb
  rcases HB3.out b hb with h|h
  ·exact H1.out.lo b h
  ·exact aF HB.out (aF HB1.out.size (aF hB2.size h))
 ·intro hb
  rcases HB3.out rb hb with h|h
  ·exact H1.out.ne h
  ·have:=hlt HR2.out;omega
 ·refine(s2.map _).trans ?_;rw[bP];exact((oY _).2 H1.out.all).trans (fq _ _).symm
 ·have:=H1.out.cost;have:=HCS.out;have:=kM.out;have:=sb.out;rw[aM,List.length_singleton];omega
end jw.sd
namespace jw
open ks (af ae hlt ah bC alloc_old aG aX aT dp)
theorem WG (a:ByteArray) (w:World):Calls Tryz.prog 347 #[.string a] w fun r w'=>r=.returned (.bool false)∧w'=w:=by
 go_enter Tryz.func347,Tryz.ntmps347
 go_wp2
 go_ret;exact⟨by simp,rfl⟩
theorem oN:∀ (x y:List UInt8),Op.bytesLess x y=decide (Lib.compareBytes x y<0)
 | [],[]=>by simp[Op.bytesLess,Lib.compareBytes]
 | [],_::_=>by simp[Op.bytesLess,Lib.compareBytes]
 | _::_,[]=>by simp[Op.bytesLess,Lib.compareBytes]
 | a::x,b::y=>by
  unfold Op.bytesLess Lib.compareBytes
  by_cases h1:a<b
  ·simp[h1]
  ·by_cases h2:b<a
   ·have h3:a≠b:=by rintro rfl;exact h1 h2
    simp[h1,h2,h3]
   ·have h3:a=b:=by rw[gu] at h1 h2;exact rU.1 (by omega)
    simp[h3,oN x y]
theorem vL:∀ (x y:List UInt8),Lib.compareBytes x y=-1∨Lib.compareBytes x y=0∨Lib.compareBytes x y=1
 | [],[]=>by simp[Lib.compareBytes]
 | [],_::_=>by simp[Lib.compareBytes]
 | _::_,[]=>by simp[Lib.compareBytes]
 | a::x,b::y=>by
  unfold Lib.compareBytes;split
  ·simp
  ·split
   ·simp
   ·exact vL x y
theorem LW (a b:ByteArray) (w:World):Calls Tryz.prog 342 #[.string a,.string b] w fun r w'=>r=.returned (.int .i64 (Lib.compareBytes a.data.toList b.data.toList))∧w'=w:=by
 have HN:=ae (fun a=>WG a w);have hl:Op.bytesLess a.toList b.toList=decide (Lib.compareBytes a.data.toList b.data.toList<0):=by rw[oN,dW,dW]
 have he:(a.toList == b.toList)=decide (Lib.compareBytes a.data.toList b.data.toList=0):=by rw[dW,dW,eL,mH,cz,rk.cmp_eq]
 have hv:=vL a.data.toList b.data.toList;have HL:=ae hl;have HE:=ae he;have HV:=ae hv;clear hl he hv;go_enter Tryz.func342,Tryz.ntmps342
 go_wp2_with fail
 refine(HN.out a).mono ?_;rintro r w1 ⟨rfl,rfl⟩;go_wp2_with fail
 refine(HN.out b).mono ?_;rintro r w1 ⟨rfl,rfl⟩;go_wp2_with fail
 all_goals (go_ret;refine⟨?_,rfl⟩;have h1:=HL.out;have h2:=HE.out;have h3:=HV.out;clear HL HE HV HN)
 all_goals generalize Lib.compareBytes a.data.toList b.data.toList=c at *
 all_goals (rcases h3 with rfl|rfl|rfl<;>first|rfl|(exfalso;revert h1 h2;simp_all))
end jw
end Go.Proofs.YthpdlidbaojlbaaGreatDoor
