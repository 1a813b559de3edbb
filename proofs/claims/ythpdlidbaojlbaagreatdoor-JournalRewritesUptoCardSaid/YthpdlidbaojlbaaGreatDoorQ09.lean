/- The document's numbers as words (ref01): Text of a number th -/
import Derived.Test.YthpdlidbaojlbaaGreatDoorQ08
import Derived.Test.YthpdlidbaojlbaaGreatDoorShelf
set_option linter.unusedVariables false
set_option linter.unusedSimpArgs false
set_option maxHeartbeats 4000000
open Go.ChangeShapes Go.WideShapes Go.RowKit
namespace Go.Proofs.YthpdlidbaojlbaaGreatDoor
namespace jw
open ks (af ae hlt ah bC alloc_old aG aX aT dp)
theorem dI.copy {B:Nat} {w w':World} {v v':Value} {es:List EF} (h:dI B w v es) (hk:af [] w w') (ho:bF jX 1 32 B w' v' es):dI B w' v' es:=⟨ho,fun e he=>(h.each e he).aN hk,h.nd⟩
theorem dI.Sd {B:Nat} {w:World} {v:Value} {es:List EF} (h:dI B w v es) {b:Nat} (hb:w.heap.size≤b):b∉es.map (fun e=>e.g):=by intro hm;have:=(h.lt b (bA _ hm)).2;omega
set_option maxRecDepth 100000 in
theorem Nw (B db:Nat) (v:Value) (es:List EF) (s:ByteArray) (w:World) (h:DqD B w db v es) (hn:(fQ es).length<1048576) (hs:s.size≤1048576):
  Calls Tryz.prog 28 #[dp db,.bool false,.string s] w fun r w'=>r=.returned (.int .i64 0)∧∃ v' es',DqD B w' db v' es'∧fQ es'=fQ es++[s]∧af [db] w w':=by
 have HM:=ae (Rm B db v es s w h hn hs);have hlen:=zV (fun e he=>(h.ch e he).2);obtain⟨n,hnn⟩:∃ n,es.length=n:=⟨_,rfl⟩;have hnb:n≤1048576:=by omega
 obtain⟨a,cap,rfl,_⟩:=h.ef.row.form;rw[hnn] at h;obtain⟨tb,htb⟩:∃ tb:Bool,tb=(es[n-1]?).any (fun e=>decide (e.ws.length<32)):=⟨_,rfl⟩;have qf:=ae htb;have H:=ae h;have HN:=ae hnn;have HS:=ae hs;have hrow:=uL (h.ef.row.row nJ.n);have fN:=ae hrow;unfold dp at *;clear h hnn hn hs hlen htb hrow;go_enter Tryz.func28,Tryz.ntmps28
 go_wp2_with fail
 refine HM.out.mono ?_;rintro r w1 ⟨rfl,hk1⟩;have K1:=ae hk1;have c0:w1.cell? ⟨db,0,none⟩=some (.slice a n cap):=by rw[ah (hk1.get H.out.hd (by simp))];rfl
 clear hk1
 go_upto_region 17 with(at_builtin;go_loud (refine u6 rfl _ _ rfl w1.heap.size (.slice none 0 0) [] es (.slice a n cap) rfl (bF.nil _ _ _ _ _) rfl ((H.out.ef.row.aN K1.out).row nJ.n) (by simp) (by rw[HN.out];omega) (aq _) ?_;intro v1 w2 hp;have k2:af [] w1 w2:=hp.bY;have HO:Hid (bF jX 1 32 w1.heap.size w2 v1 es):=ae hp.own;have K2:=ae k2;have c2:=ak k2 c0;clear hp k2))
 go_cut [88] (fun t wx=>t=.bool tb∧wx=w2)
 case first=>as_aux_lemma=>
  by_cases h0:n=0
  ·have HT:=ae (show tb=false by rw[qf.out,bR (by rw[HN.out];omega)];rfl);subst h0;go_wp2_with fail
   go_meet;exact⟨by rw[HT.out],rfl⟩
  ·have hpos:(0:Int)<(n:Int):=by omega
   obtain⟨m,hm⟩:∃ m,m=n-1:=⟨_,rfl⟩;obtain⟨e,he⟩:∃ e,es[m]?=some e:=⟨_,ag (by rw[HN.out];omega)⟩;obtain⟨g,off,rfl,hcc⟩:=fN.out (by omega);have hcx:=ak K2.out (ak K1.out (hcc m e he));have hw1:wrap64 ((n:Int)-1)=(m:Int):=by unfold wrap64;omega
   have hw2:(n:Int)-1=(m:Int):=by omega
   have hmn:(m:Int)<(n:Int):=by omega
   unfold fK at hcx
   by_cases h3:e.ws.length<32
   ·have HT:=ae (show tb=true by rw[qf.out,←hm,he];simp[h3]);have Wg:((e.ws.length:Nat):Int)<32:=by omega
    clear hm he hcc;go_wp2_with fail
    go_meet;exact⟨by rw[HT.out],rfl⟩
   ·have HT:=ae (show tb=false by rw[qf.out,←hm,he];simp[h3]);have Wg:¬((e.ws.length:Nat):Int)<32:=by omega
    clear hm he hcc;go_wp2_with fail
    go_meet;exact⟨by rw[HT.out],rfl⟩
 case rest=>
  obtain⟨rfl,rfl⟩:=hcut
  go_upto_if 88 with(fail)
  go_cut [8] (fun out wx=>∃ (v3:Value) (IL:List EF),v3=out∧Hid (dI B wx v3 IL∧fQ IL=fQ es++[s]∧(∀ e∈IL,e.ws.length≤32∧0<e.ws.length)∧af [] w1 wx))
  case first Jc Kc zK hKc=>
   rcases tb with _|_
   ·go_wp2_with (at_builtin;go_loud (refine yy rfl _ _ rfl w1.heap.size v1 n es ⟨wc.heap.size,1,[s]⟩ rfl (HO.out.aN ((af.refl [] wc).alloc _)) HN.out.symm (by simp;rfl) (by omega) (by have:=K2.out.size;simp;omega) ?_;intro g c w5 hp;have HP:=ae hp;clear hp))
    go_meet;have k3:af [] wc (wc.alloc (.cells #[.string s] 9)):=(af.refl [] wc).alloc _;have he:=((H.out.ef.aN K1.out).copy K2.out (HO.out.mono (by have:=H.out.low;have:=K1.out.size;omega))).aN k3;have hB:B≤wc.heap.size:=by have:=H.out.low;have:=K1.out.size;have:=K2.out.size;omega
    have hown:bF b9 1 9 B (wc.alloc (.cells #[.string s] 9)) (fK ⟨wc.heap.size,1,[s]⟩) [s]:=qS wc [s] B hB (by simp[maxLen])
    have hnew:wc.heap.size∉es.map (fun e=>e.g):=by have:=(H.out.ef.aN (K1.out.trans K2.out)).Sd (b:=wc.heap.size) (aq _);exact this
    have hp2:eW jX 1 32 B (wc.alloc (.cells #[.string s] 9)) w5 v1 es ⟨wc.heap.size,1,[s]⟩ g n c:=⟨HP.out.own.mono (by have:=H.out.low;have:=K1.out.size;omega),HP.out.bY,HP.out.at_,HP.out.lt⟩;refine⟨_,es++[⟨wc.heap.size,1,[s]⟩],rfl,ae ⟨he.push hown hnew hp2,by simp[fQ],fun e hm=>?_,?_⟩⟩
    ·rcases bj.1 hm with hm|hm
     ·exact H.out.ch e hm
     ·simp at hm;subst hm;simp
    ·exact((K2.out.trans k3).step HP.out.bY (fun b hb=>.inr (HO.out.lt b (by simpa using hb)).1))
   ·obtain⟨m,hm⟩:∃ m,m=n-1:=⟨_,rfl⟩
    have hne:es≠[]:=by rintro rfl;have:=qf.out;simp at this
    obtain⟨pre,e,hes⟩:∃ pre e,es=pre++[e]:=⟨es.dropLast,es.getLast hne,(List.dropLast_concat_getLast hne).symm⟩;have hpl:pre.length=m:=by have:=HN.out;rw[hes] at this;simp at this;omega
    have he:es[m]?=some e:=by rw[hes,bN (by omega),hpl,dZ];rfl
    have hel:e.ws.length<32:=by have:=qf.out;rw[←hm,he] at this;simpa using this
    obtain⟨a1,rc,hv1,_,_,_,hx1⟩:=HO.out.form;obtain⟨rg,rfl⟩:=hx1 (by have:=HN.out;have:=bZ.2 hne;omega);rw[HN.out] at hv1;subst hv1;have hmn:(m:Int)<(n:Int):=by have:=HN.out;have:=bZ.2 hne;omega
    have hmb:m≤1048576:=by omega
    have hw1:wrap64 ((n:Int)-1)=(m:Int):=by unfold wrap64;omega
    have hw2:(n:Int)-1=(m:Int):=by omega
    have hcr:∀ W,af [] wc W→W.cell? ⟨rg,m,none⟩=some (.slice (some ⟨e.g,0,none⟩) e.ws.length e.cap)∧W.frozen? ⟨rg,m,none⟩=false:=fun W hk=>by have ho:=HO.out.aN hk;have h1:=bF.cell (enc:=jX) (fun _=>rfl) ho he (j:=0) (u:=fK e) rfl;rw[bB,Nat.add_zero] at h1;exact⟨h1,ho.frozen m⟩
    have hrw:=(H.out.ef.each e (aB he)).aN (K1.out.trans K2.out);have HW:=ae (fun W (hk:af [] wc W)=>M7 (some ⟨e.g,0,none⟩) e.ws.length e.cap e.ws s W ((hrw.aN hk).row dR.n) (by omega));have HCR:=ae hcr;have Cj:=ae hes;have vV:=ae hpl;have cx:=(hcr wc (af.refl _ _)).1;have fx:=(hcr wc (af.refl _ _)).2;have o8:=ae hel;clear hm hne hes hpl he hel hx1 hcr hrw;go_wp2_with fail
    have hw4:IntKind.i64.wrap (m:Int)=(m:Int):=by rw[cH];omega
    go_region_law (first|(go_simp;go_at_call 72;refine(HW.out _ ((af.refl _ wc).drew)).mono ?_;rintro r w5 ⟨g2,c2,rfl,ho,hk5⟩;have mj:af [] wc w5:=((af.refl _ wc).drew).trans hk5;obtain⟨q2,gy⟩:=HCR.out w5 mj;have PQ:=ae ho;have zA:=ae mj;clear ho hk5 mj))
    all_goals
     refine hKc _ _ (gE (zK _ _ ?_))
     (repeat apply Exists.intro)
     refine⟨?_,rfl⟩;have hB:B≤w1.heap.size:=by have:=H.out.low;have:=K1.out.size;omega
     have he1:=((H.out.ef.aN K1.out).copy K2.out (HO.out.mono hB));have e0:fK ⟨g2,c2,e.ws++[s]⟩=.slice (some ⟨g2,0,none⟩) (e.ws.length+1) c2:=by simp[fK]
     have hsp:jy b9 1 9 B wc w5 (fK e) (fK ⟨g2,c2,e.ws++[s]⟩) e.ws [s]:=⟨by
      rw[e0]
      exact PQ.out.mono (by have:=K2.out.size;simp;omega),zA.out.mono (by simp),fun g hg=>.inr (by rw[e0] at hg;exact(PQ.out.lt g hg).1)⟩
     have hes:=Cj.out;rw[hes] at he1;have hm:=he1.more rfl hsp;rw[e0,vV.out] at hm;refine⟨_,pre++[⟨g2,c2,e.ws++[s]⟩],rfl,ae ⟨hm,by rw[hes];simp[fQ],fun x hx=>?_,?_⟩⟩
     ·rcases bj.1 hx with hx|hx
      ·exact H.out.ch x (by rw[hes];simp[hx])
      ·simp at hx;subst hx;have:=o8.out;simp;omega
     ·exact(K2.out.trans zA.out).step ((af.refl [rg] w5).setCell (p:=⟨rg,m,none⟩) (.inl (by simp)) _) (fun b hb=>.inr (by simp at hb;rw[hb];exact(HO.out.lt rg rfl).1))
  case rest=>
   obtain⟨v3,IL,rfl,HV⟩:=hcut;obtain⟨a3,c4,rfl,_⟩:=HV.out.1.row.form;have hd3:=HV.out.2.2.2.get (K1.out.get H.out.hd (by simp)) (by simp);have c3:wc.cell? ⟨db,0,none⟩=some (.slice a n cap):=by rw[ah hd3];rfl
   have f3:wc.frozen? ⟨db,0,none⟩=false:=bC hd3 0;have HD3:=ae hd3;clear hd3;go_wp2_with fail
   go_ret;exact⟨rfl,_,IL,DqD.lay HD3.out HV.out.1 HV.out.2.2.1 H.out.b,HV.out.2.1,((K1.out.trans HV.out.2.2.2).mono (by simp)).setCell (p:=⟨db,0,none⟩) (.inl (by simp)) _⟩
theorem xy {l:List ByteArray} {i:Nat} {x:ByteArray} (h:(l.take i).Nodup) (hx:l[i]?=some x) (hn:∀ p y,p<i→l[p]?=some y→y≠x):(l.take (i+1)).Nodup:=by
 rw[c8,hx,Option.toList_some,uC];refine⟨h,fun hm=>?_⟩;obtain⟨p,hp⟩:=ir.1 hm;rw[dP] at hp
 split at hp
 ·exact hn p x (by assumption) hp rfl
 ·cases hp
theorem Ig {l:List ByteArray} {i k:Nat} {x:ByteArray} (hk:k<i) (h1:l[k]?=some x) (h2:l[i]?=some x):¬l.Nodup:=fun h=>by obtain⟨a,e1⟩:=au.1 h1;obtain⟨b,e2⟩:=au.1 h2;exact fB.1 h k i a b hk (by rw[e1,e2])
theorem Jx (v:Value) (l:List ByteArray) (w:World) (h:eh b9 1 w v l) (hn:l.length≤8388608):
  Calls Tryz.prog 70 #[v] w fun r w'=>(∃ b:Bool,r=.returned (.bool b)∧(b=true↔¬l.Nodup))∧af [] w w':=by
 obtain⟨al,cap,rfl,_,_,_,hc⟩:=h.texts;obtain⟨n,hnn⟩:∃ n,l.length=n:=⟨_,rfl⟩;rw[hnn] at hc hn ⊢;have HC:=ae hc;have HN:=ae hnn;clear h hc hnn;go_enter Tryz.func70,Tryz.ntmps70
 go_wp2_with fail
 go_loopw [3,4] (fun i _ wr=>∃ m:Nat,i=.int .i64 (m:Int)∧m≤n∧Hid ((l.take m).Nodup∧af [] w wr)) (fun i _ _=>n-(intOf i).toNat)
 case atStart=>exact⟨0,rfl,bz _,ae ⟨by simp,af.refl _ _⟩⟩
 case round=>
  obtain⟨m,rfl,hm,HV⟩:=hrel
  by_cases hlt2:m<n
  ·obtain⟨x,hx⟩:∃ x,l[m]?=some x:=⟨_,ag (by rw[HN.out];exact hlt2)⟩;obtain⟨g,off,rfl,hcc⟩:=HC.out (by omega);have hmn:(m:Int)<(n:Int):=by omega
   have HX:=ae hx;have MW:=ae hcc;obtain⟨wz,rfl⟩:∃ wz,wz=wr:=⟨_,rfl⟩;clear hx hcc;go_wp2_with fail
   go_loopw [4] (fun k wr=>∃ q:Nat,k=.int .i64 (q:Int)∧q≤m∧Hid ((∀ p y,p<q→l[p]?=some y→y≠x)∧af [] w wr)) (fun k _=>m-(intOf k).toNat)
   case atStart=>exact⟨0,rfl,bz _,ae ⟨fun p y hp=>by omega,HV.out.2⟩⟩
   case round=>
    obtain⟨q,rfl,hq,HW⟩:=hrel
    by_cases hlt3:q<m
    ·obtain⟨y,hy⟩:∃ y,l[q]?=some y:=⟨_,ag (by rw[HN.out];omega)⟩;have hqm:(q:Int)<(m:Int):=by omega
     have XR:(q:Int)<(n:Int):=by omega
     have c1:=ak HW.out.2 (MW.out q y hy);have c2:=ak HW.out.2 (MW.out m x HX.out);have HY:=ae hy;clear hy
     by_cases he:y=x
     ·subst he;have rY:=ae (Ig hlt3 HY.out HX.out);go_wp2_with fail
      go_quiet (fail)
      go_wp2_with fail
      go_ret;exact⟨⟨true,rfl,by simp;exact rY.out⟩,HW.out.2.drewN _⟩
     ·have hne:(y.toList == x.toList)=false:=ks.iB he;have HE:=ae he;clear he;go_wp2_with fail
      go_quiet (fail)
      go_wp2_with fail
      go_roundw
      case rel=>exact⟨q+1,by go_num,by omega,ae ⟨fun p z hp hz=>by
       rcases dD p q with h1|h1
       ·exact HW.out.1 p z h1 hz
       ·obtain rfl:p=q:=by omega
        rw[HY.out] at hz;obtain rfl:=cK hz
        exact HE.out,HW.out.2.drewN _⟩⟩
      case measure=>simp[intOf];omega
    ·obtain rfl:q=m:=by omega
     go_wp2_with fail
     go_roundw
     case rel=>exact⟨q+1,by go_num,by omega,ae ⟨xy HV.out.1 HX.out HW.out.1,HW.out.2⟩⟩
     case measure=>simp[intOf];omega
  ·obtain rfl:m=n:=by omega
   have ht:l.take m=l:=aE (by rw[HN.out];exact aq _);rw[ht] at HV;go_wp2_with fail
   go_ret;exact⟨⟨false,rfl,by simp;exact HV.out.1⟩,HV.out.2⟩
theorem uA (name key:ByteArray):∀ (f:Nat) (l:List Words),l.length≤f→Fits name key l→parts name key f l=parts name key l.length l
 | 0,l,h,_=>by
  have:l.length=0:=by omega
  rw[this]
 | f+1,[],h,_=>rfl
 | f+1,g::gs,h,hf=>by
  have h0:(iG (dz [name,key]) 0 [name,key] (g::gs)).2.length≤gs.length:=by unfold iG;rw[aQ ⟨by omega,by have:=hf g (by simp);omega⟩];exact wM gs _ _ _
  have hs:Fits name key (iG (dz [name,key]) 0 [name,key] (g::gs)).2:=fun x hx=>hf x (tL _ _ _ _ x hx)
  rw[List.length_cons];unfold parts;rw[uA name key f _ (by simp at h;omega) hs,uA name key gs.length _ h0 hs]
def IA:Value→Nat
 | .slice _ n _=>n
 | _=>0
def wsE (gs:List EF):List Words:=gs.map (fun e=>e.ws)
structure PtR (name key:ByteArray) (w:World) (gs:List EF) (X:World) (gv ov:Value) (es:List EF) (k:Nat):Prop where
 g:eh jX 1 w gv (gs.drop k)
 o:dI w.heap.size X ov es
 kp:af [] w X
 p:parts name key gs.length (wsE gs)=wsE es++parts name key (gs.drop k).length (wsE (gs.drop k))
 le:k≤gs.length
 len:es.length≤k
structure InR (name key:ByteArray) (w X0:World) (gs:List EF) (k:Nat) (X:World) (gv ev:Value) (ew:Words) (sz m:Nat):Prop where
 g:eh jX 1 w gv (gs.drop (k+m))
 e:bF b9 1 9 X0.heap.size X ev ew
 kp:af [] X0 X
 f:iG (dz [name,key]) 0 [name,key] (wsE (gs.drop k))=iG sz m ew (wsE (gs.drop (k+m)))
 le:k+m≤gs.length
 m64:m≤64
 szb:sz≤4194304
 len:2≤ew.length∧ew.length≤2+2*m
 z:m=0→sz=dz [name,key]
theorem x9 {gs:List EF} {k:Nat} {e:EF} (h:gs[k]?=some e):wsE (gs.drop k)=e.ws::wsE (gs.drop (k+1)):=by obtain⟨hl,rfl⟩:=au.1 h;unfold wsE;rw[eT hl,bP]
theorem M4 {gs:List EF} {k:Nat} (h:gs.length≤k):wsE (gs.drop k)=[]:=by unfold wsE;rw[jF h];rfl
theorem InR.next {name key:ByteArray} {w X0 X X':World} {gs:List EF} {k sz m:Nat} {gv U2 ev ev':Value} {ew:Words} {e:EF} (h:InR name key w X0 gs k X gv ev ew sz m) (he:gs[k+m]?=some e) (hm:m<64) (hs:sz+dz e.ws≤4194304) (h2:e.ws.length≤2)
  (hg:eh jX 1 w U2 (gs.drop (k+(m+1)))) (hp:jy b9 1 9 X0.heap.size X X' ev ev' ew e.ws):InR name key w X0 gs k X' U2 ev' (ew++e.ws) (sz+dz e.ws) (m+1):=by
 refine⟨hg,hp.own,h.kp.step hp.bY (fun b hb=>.inr (h.e.lt b (by simpa using hb)).1),?_,?_,by omega,hs,by have:=h.len;simp;omega,fun h0=>by omega⟩
 ·rw[h.f,x9 he];rw[iG,aQ ⟨hm,by omega⟩];rfl
 ·have:=(au.1 he).1;omega
theorem InR.full {name key:ByteArray} {w X0 X:World} {gs:List EF} {k sz m:Nat} {gv ev:Value} {ew:Words} (h:InR name key w X0 gs k X gv ev ew sz m) (hx:gs.length≤k+m∨m=64∨∃ e,gs[k+m]?=some e∧4194304<sz+dz e.ws):
  iG (dz [name,key]) 0 [name,key] (wsE (gs.drop k))=(ew,wsE (gs.drop (k+m))):=by
 rw[h.f]
 rcases dD (k+m) gs.length with hl|hl
 ·have he:=ag hl;rw[x9 he,iG,aJ];rintro⟨h1,h2⟩
  rcases hx with h3|h3|⟨e,h3,h4⟩
  ·omega
  ·omega
  ·rw[he] at h3;rw[cK h3] at h2;exact h2 h4
 ·rw[M4 hl];rfl
theorem PtR.next {name key:ByteArray} {w X0 X X':World} {gs es:List EF} {k sz m:Nat} {gv U2 ov:Value} {e:EF} {g n cap:Nat} (h:PtR name key w gs X0 gv ov es k) (hf:Fits name key (wsE gs)) (hi:InR name key w X0 gs k X U2 (fK e) e.ws sz m) (hm:0<m)
  (hfull:iG (dz [name,key]) 0 [name,key] (wsE (gs.drop k))=(e.ws,wsE (gs.drop (k+m)))) (hp:eW jX 1 32 w.heap.size X X' ov es e g n cap):PtR name key w gs X' U2 (.slice (some ⟨g,0,none⟩) (n+1) cap) (es++[e]) (k+m):=by
 have ho:=h.o.aN hi.kp;have hel:e.g∉es.map (fun e=>e.g):=h.o.Sd (hi.e.lt e.g rfl).1;refine⟨hi.g,ho.push (hi.e.mono h.kp.size) hel hp,?_,?_,hi.le,by have:=h.len;simp;omega⟩
 ·exact(h.kp.trans hi.kp).step hp.bY (fun b hb=>.inr (ho.lt b (bh _ hb)).1)
 ·rw[h.p];have hlt:k<gs.length:=by have:=hi.le;omega
  have he:=ag hlt;have hw:=x9 he
  have Yk:Fits name key (wsE (gs.drop k)):=fun x hx=>hf x (by
   unfold wsE at *;rw[uo] at hx
   exact kj hx)
  have hfm:Fits name key (wsE (gs.drop (k+m))):=fun x hx=>hf x (by
   unfold wsE at *;rw[uo] at hx
   exact kj hx)
  have e1:parts name key (gs.drop k).length (wsE (gs.drop k))=e.ws::parts name key (gs.drop (k+m)).length (wsE (gs.drop (k+m))):=by
   have hl:(gs.drop k).length=(gs.length-k-1)+1:=by rw[br];omega
   rw[hl,hw,parts,←hw,hfull];simp only;rw[uA name key _ _ (by unfold wsE;rw[aU,br];omega) hfm];unfold wsE;rw[aU]
  rw[e1];unfold wsE;simp
set_option maxRecDepth 100000 in
theorem Ht (name key:ByteArray) (gv:Value) (gs:List EF) (w:World) (hr:eh jX 1 w gv gs) (he:∀ e∈gs,eh b9 1 w (fK e) e.ws) (hf:Fits name key (wsE gs)) (hl:gs.length≤2097152) (hg:∀ e∈gs,e.ws.length≤2):
  Calls Tryz.prog 15 #[.string name,.string key,gv] w fun r w'=>∃ v es,r=.returned v∧dI w.heap.size w' v es∧wsE es=parts name key gs.length (wsE gs)∧af [] w w':=by
 have hnk:dz [name,key]=name.size+key.size:=by simp[dz]
 have HF:=ae hf;have HE:=ae he;have HG:=ae hg;have HL:=ae hl;have MU:=ae hnk;have H0:Hid (PtR name key w gs w gv (.slice none 0 0) [] 0):=ae ⟨by simpa using hr,dI.nil _ _,af.refl _ _,by simp[wsE],bz _,by simp⟩;obtain⟨a0,c0,rfl,_⟩:=hr;clear he hf hg hnk;go_enter Tryz.func15,Tryz.ntmps15
 go_wp2_with fail
 go_loopw [2,7,8,9,10,11,13] (fun g o _ _ _ _ _ X=>∃ (k:Nat) (ga:Option Addr) (n gc:Nat) (ov:Value) (es:List EF),g=.slice ga n gc∧ov=o∧Hid (PtR name key w gs X (.slice ga n gc) ov es k)) (fun g _ _ _ _ _ _ _=>IA g)
 case atStart=>exact⟨0,_,_,_,_,[],rfl,rfl,H0⟩
 case round=>
  obtain⟨k,ga,n0,gc,ov,es,rfl,rfl,HV⟩:=hrel;have hn:n0=(gs.drop k).length:=HV.out.g.yH;have hnb:n0≤2097152:=by rw[hn,br];have:=HL.out;omega
  by_cases h0:n0=0
  ·have HD:=ae (show(gs.drop k)=[] from bU.1 (by omega));subst h0;go_wp2_with fail
   go_ret;refine⟨ov,es,rfl,HV.out.o,?_,HV.out.kp⟩;rw[HV.out.p,HD.out];simp[wsE,parts]
  ·have hpos:(0:Int)<(n0:Int):=by omega
   have aai:decide (0<n0)=true:=by simp;omega
   have HN:=ae hn;obtain⟨x0,rfl⟩:∃ x0,x0=wr:=⟨_,rfl⟩;have hkn:k<gs.length:=by rw[hn,br] at h0;omega
   have MC:=ae hkn;obtain⟨Tn,hsz0⟩:∃ s,s=name.size+key.size:=⟨_,rfl⟩;have hs0:(name.size:Int)+(key.size:Int)=(Tn:Int):=by omega
   have Uw:Tn≤4194304:=by obtain⟨e,he⟩:∃ e,gs[k]?=some e:=⟨_,ag hkn⟩;have h1:=HF.out e.ws (aV.2 ⟨e,aB he,rfl⟩);rw[MU.out] at h1;omega
   have hs1:IntKind.i64.wrap ((name.size:Int)+(key.size:Int))=(Tn:Int):=by rw[hs0,cH];omega
   have hs2:wrap64 ((name.size:Int)+(key.size:Int))=(Tn:Int):=by rw[hs0];unfold wrap64;omega
   have HI0:Hid (InR name key w x0 gs k (x0.alloc (.cells #[.string name,.string key] 9)) (.slice ga n0 gc) (.slice (some ⟨x0.heap.size,0,none⟩) 2 2) [name,key] Tn 0):=ae ⟨HV.out.g,qS x0 [name,key] x0.heap.size (aq _) (by simp[maxLen]),(af.refl _ _).alloc _,by rw[MU.out,←hsz0];rfl,by omega,by omega,Uw,by simp,fun _=>by rw[MU.out,hsz0]⟩;clear hn hkn hsz0;go_wp2_with fail
   go_loopw [2,8,9,10,11,13] (fun g e s c _ _ X=>∃ (m:Nat) (ga:Option Addr) (n gc:Nat) (ev:Value) (ew:Words) (sz:Nat),g=.slice ga n gc∧ev=e∧s=.int .i64 (sz:Int)∧c=.int .i64 (m:Int)∧Hid (InR name key w x0 gs k X (.slice ga n gc) ev ew sz m)) (fun g _ _ _ _ _ _=>IA g)
   case atStart=>exact⟨0,_,_,_,_,_,Tn,rfl,rfl,rfl,rfl,HI0⟩
   case round=>
    clear hnb;obtain⟨m,ga,n,gc,ev,ew,sz,rfl,rfl,rfl,rfl,HW⟩:=hrel;have hn:n=(gs.drop (k+m)).length:=HW.out.g.yH;have hnb:n≤2097152:=by rw[hn,br];have:=HL.out;omega
    have abX:=HW.out.m64;have Uw:=HW.out.szb;have xW:=ae hn;obtain⟨ea,ec,rfl,_,_,_,UN⟩:=HW.out.e.form;obtain⟨g1,rfl⟩:=UN (by have:=HW.out.len;omega);clear UN
    by_cases hn0:n=0
    ·have hge:gs.length≤k+m:=by rw[hn,br] at hn0;omega
     have AM:=ae (show 0<m by have:=MC.out;omega);have VP:=ae (HW.out.full (.inl hge));subst hn0;clear hn;have K1:=HW.out.kp;have Cq:=ae (HV.out.o.aN K1);go_wp2_with (at_builtin;go_loud (refine yy rfl _ _ rfl w.heap.size ov es.length es ⟨g1,ec,ew⟩ rfl Cq.out.row rfl rfl (by have:=HV.out.len;have:=HV.out.le;have:=HL.out;omega) (aF HV.out.kp.size HW.out.kp.size) ?_;intro g9 c9 w9 hp;have HP:=ae hp;clear hp))
     go_roundw
     case rel=>exact⟨k+m,_,_,_,_,es++[⟨g1,ec,ew⟩],rfl,rfl,ae (PtR.next HV.out HF.out HW.out AM.out VP.out HP.out)⟩
     case measure=>simp only[IA];have h1:=HN.out;have h2:=xW.out;have h3:=AM.out;have h4:=HW.out.le;rw[br] at h1 h2;omega
    ·have aaj:(0:Int)<(n:Int):=by omega
     by_cases h64:m=64
     ·have AM:=ae (show 0<m by omega);have VP:=ae (HW.out.full (.inr (.inl h64)));have ack:¬((m:Int)<64):=by omega
      clear hn h64;have K1:=HW.out.kp;have Cq:=ae (HV.out.o.aN K1);go_wp2_with (at_builtin;go_loud (refine yy rfl _ _ rfl w.heap.size ov es.length es ⟨g1,ec,ew⟩ rfl Cq.out.row rfl rfl (by have:=HV.out.len;have:=HV.out.le;have:=HL.out;omega) (aF HV.out.kp.size HW.out.kp.size) ?_;intro g9 c9 w9 hp;have HP:=ae hp;clear hp))
      go_roundw
      case rel=>exact⟨k+m,_,_,_,_,es++[⟨g1,ec,ew⟩],rfl,rfl,ae (PtR.next HV.out HF.out HW.out AM.out VP.out HP.out)⟩
      case measure=>simp only[IA];have h1:=HN.out;have h2:=xW.out;have h3:=AM.out;have h4:=HW.out.le;rw[br] at h1 h2;omega
     ·have hm:m<64:=by omega
      have Lo:(m:Int)<64:=by omega
      have hkm:k+m<gs.length:=by rw[hn,br] at hn0;omega
      obtain⟨e,he⟩:∃ e,gs[k+m]?=some e:=⟨_,ag hkm⟩;have hem:=aB he;obtain⟨gg,YL,rfl,hcc⟩:=uL HW.out.g (by omega);have K0:=ae (HV.out.kp.trans HW.out.kp);have hcx:=ak K0.out (hcc 0 e (by rw[fS];exact he));rw[Nat.add_zero] at hcx;have hgr:=HE.out e hem;obtain⟨wa,P2,hwv,_,_,_,hwc⟩:=hgr.texts;have hev:fK e=.slice wa e.ws.length P2:=hwv;rw[hev] at hcx;have qN:=ae hgr;have TG:=ae hev;obtain⟨nw,hnw⟩:∃ nw,e.ws.length=nw:=⟨_,rfl⟩;rw[hnw] at hcx hwc;have HWC:=ae hwc;have Eb:=ae hnw;have UE:nw≤2:=by rw[←hnw];exact HG.out e hem
      have HWB:=ae (show dz e.ws≤4194304 by
       have:=HF.out e.ws (aV.2 ⟨e,hem,rfl⟩)
       omega)
      have HEE:=ae he;have Ck:=ae hem;obtain⟨x1,rfl⟩:∃ x1,x1=wr:=⟨_,rfl⟩;clear hn hem he hcc hgr hwv hev hwc hnw;go_wp2_with fail
      go_loopw [36,11,13] (fun i s _ X=>X=x1∧∃ q:Nat,i=.int .i64 (q:Int)∧s=.int .i64 (dz (e.ws.take q):Nat)∧q≤nw) (fun i _ _ _=>nw-(intOf i).toNat)
      case atStart=>exact⟨rfl,0,rfl,rfl,bz _⟩
      case round=>
       obtain⟨rfl,q,rfl,rfl,hq⟩:=hrel
       by_cases hq2:q<nw
       ·obtain⟨x,hx⟩:∃ x,e.ws[q]?=some x:=⟨_,ag (by rw[Eb.out];exact hq2)⟩;obtain⟨wg,woff,rfl,hcw⟩:=HWC.out (by omega);have hcy:=ak K0.out (hcw q x hx);have XR:(q:Int)<(nw:Int):=by omega
        obtain⟨s,hs1⟩:∃ s,s=dz (e.ws.take q):=⟨_,rfl⟩;obtain⟨z,hz1⟩:∃ z,z=dz (e.ws.take (q+1)):=⟨_,rfl⟩;have hsz:z=s+x.size:=by rw[hs1,hz1];exact x8 e.ws q x hx
        have hzb:z≤4194304:=by rw[hz1];exact aF (Ct _ _) HWB.out
        have hzi:(s:Int)+(x.size:Int)=(z:Int):=by omega
        have hzw:IntKind.i64.wrap (z:Int)=(z:Int):=by rw[cH];omega
        have HZ:=ae hz1;clear hsz hzb;rw[←hs1];clear hx hcw hs1 hz1;go_wp2_with fail
        go_roundw
        case rel=>exact⟨trivial,q+1,by go_num,by rw[←HZ.out],by omega⟩
        case measure=>simp[intOf];omega
       ·obtain rfl:q=nw:=by omega
        have ht:e.ws.take q=e.ws:=aE (by rw[Eb.out];exact aq _);rw[ht];obtain⟨s,hs1⟩:∃ s,s=dz e.ws:=⟨_,rfl⟩;have hsb:s≤4194304:=by rw[hs1];exact HWB.out
        obtain⟨z,hz⟩:∃ z,z=sz+s:=⟨_,rfl⟩;have hzi:(sz:Int)+(s:Int)=(z:Int):=by omega
        have hzw:IntKind.i64.wrap (z:Int)=(z:Int):=by rw[cH];omega
        have HS:=ae hs1;have HZ:=ae hz;rw[←hs1]
        by_cases hov:4194304<z
        ·have XV:decide ((4194304:Int)<(z:Int))=true:=by simp;omega
         have AM:=ae (show 0<m by
          rcases cV m with h0|h0
          ·have h1:=HW.out.z h0;have h2:=HF.out e.ws (aV.2 ⟨e,Ck.out,rfl⟩);omega
          ·exact h0)
         have VP:=ae (HW.out.full (.inr (.inr ⟨e,HEE.out,by omega⟩)));clear ht hs1 hz;have K1:=HW.out.kp;have Cq:=ae (HV.out.o.aN K1);go_wp2_with (at_builtin;go_loud (refine yy rfl _ _ rfl w.heap.size ov es.length es ⟨g1,ec,ew⟩ rfl Cq.out.row rfl rfl (by have:=HV.out.len;have:=HV.out.le;have:=HL.out;omega) (aF HV.out.kp.size HW.out.kp.size) ?_;intro g9 c9 w9 hp;have HP:=ae hp;clear hp))
         go_roundw
         case rel=>exact⟨k+m,_,_,_,_,es++[⟨g1,ec,ew⟩],rfl,rfl,ae (PtR.next HV.out HF.out HW.out AM.out VP.out HP.out)⟩
         case measure=>simp only[IA];have h1:=HN.out;have h2:=xW.out;have h3:=AM.out;have h4:=HW.out.le;rw[br] at h1 h2;omega
        ·have XV:decide ((4194304:Int)<(z:Int))=false:=by simp;omega
         have hcut:=Vd (some ⟨gg,YL,none⟩) n gc 1 (by omega);rw[show((1:Nat):Int)=(1:Int) from rfl] at hcut;have hg2:=HW.out.g.drop 1 (by omega);rw[List.drop_drop] at hg2;have HG2:=ae hg2
         have HR:=ae (show eh b9 1 wr (.slice wa q P2) e.ws by
          have h1:=qN.out.aN K0.out;rw[TG.out,Eb.out] at h1
          exact h1)
         have HEN:=ae HW.out.len;have hwm:IntKind.i64.wrap ((m:Int)+1)=(m:Int)+1:=by rw[cH];omega
         clear ht hs1 hz hg2;go_wp2_with (at_builtin;go_loud (refine mL rfl _ _ rfl x0.heap.size (.slice (some ⟨g1,0,none⟩) ew.length ec) ew e.ws (.slice wa q P2) rfl HW.out.e rfl HR.out (by have:=HEN.out;omega) (by have:=Eb.out;omega) HW.out.kp.size ?_;intro v9 w9 hp;have HP:=ae hp;clear hp))
         go_roundw
         case rel=>exact⟨m+1,_,_,_,_,ew++e.ws,z,rfl,rfl,rfl,by go_num,ae (by
          rw[HZ.out,HS.out]
          exact HW.out.next HEE.out hm (by have:=HZ.out;have:=HS.out;omega) (by have:=Eb.out;omega) HG2.out HP.out)⟩
         case measure=>simp only[IA];omega
end jw
namespace ks
def qt (n:Int):ByteArray:=⟨(Lib.itoa n).toArray⟩
theorem Qb (n:Int) (w:World) (hn:-9223372036854775808≤n∧n≤9223372036854775807) (ht:Lib.TabIs Tryz.prog w "internal/strconv.uint64pow10" .u64 Lib.pow10Tab):
  Calls Tryz.prog 22 #[.int .i64 n] w fun r w'=>r=.returned (.string (qt n))∧af [] w w':=by
 obtain⟨h1,h2⟩:=hn;have HF:=ae (Tryz.strconv_FormatInt_10 n h1 h2 w ht);clear ht h1 h2;go_enter Tryz.func22,Tryz.ntmps22
 go_wp2_with fail
 refine HF.out.mono ?_;rintro r w1 ⟨rfl,k,os,hw1⟩;have hk:af [] w w1:=by rw[hw1];exact af.fm (tg _ _ (aq _) _ _)
 have HK:=ae hk;clear hw1 hk;go_wp2_with fail
 go_ret;exact⟨rfl,HK.out⟩
end ks
namespace jw
open ks (af ae qt)
theorem IS (d:Nat) (h:d<10) (W:World):(Instr.slice 9 (.string ⟨#[48,49,50,51,52,53,54,55,56,57]⟩) (some (.int .i64 (d:Int))) (some (.int .i64 ((d:Int)+1))) none).run Tryz.prog W=.ok (.string ⟨#[UInt8.ofNat (48+d)]⟩) W:=by rcases(by omega:d=0∨d=1∨d=2∨d=3∨d=4∨d=5∨d=6∨d=7∨d=8∨d=9) with rfl|rfl|rfl|rfl|rfl|rfl|rfl|rfl|rfl|rfl<;>kernel_rfl
theorem Fs (b:UInt8) (l:List UInt8):(⟨#[b]⟩:ByteArray)++⟨l.toArray⟩=⟨(b::l).toArray⟩:=by
 apply ByteArray.ext
 simp
theorem LP {u:Nat} (h:u<10):Lib.decDigits u=[UInt8.ofNat (48+u)]:=by rw[Lib.decDigits,dif_pos h]
theorem Sz {u:Nat} (h:¬u<10):Lib.decDigits u=Lib.decDigits (u / 10)++[UInt8.ofNat (48+u % 10)]:=by rw[Lib.decDigits,dif_neg h]
theorem Ni (n:Nat) (w:World) (hn:n≤9007199254740992):Calls Tryz.prog 16 #[.int .i64 (n:Int)] w fun r w'=>r=.returned (.string (qt (n:Int)))∧w=w':=by
 have HN:=ae (show qt (n:Int)=⟨(Lib.decDigits n).toArray⟩ by unfold qt;rw[Lib.itoa_nonneg]);have HL:=ae (show(Lib.decDigits n).length≤21 by have:=Lib.itoa_length_le (n:Int) (by omega) (by omega);rwa [Lib.itoa_nonneg] at this);go_enter Tryz.func16,Tryz.ntmps16
 go_wp2_with fail
 go_loop [3,4,5] (fun s m _=>∃ (k:Nat) (l:List UInt8),m=.int .i64 (k:Int)∧s=.string ⟨l.toArray⟩∧k≤n∧Hid (Lib.decDigits n=Lib.decDigits k++l)) (fun _ m _=>(intOf m).toNat)
 case atStart=>exact⟨n,[],rfl,rfl,aq _,ae (by simp)⟩
 case round=>
  obtain⟨k,l,rfl,rfl,hk,HV⟩:=hrel;obtain⟨q,hq⟩:∃ q,q=k / 10:=⟨_,rfl⟩;obtain⟨d,hd⟩:∃ d,d=k % 10:=⟨_,rfl⟩;have Gy:d<10:=by omega
  have e1:(k:Int).tmod 10=(d:Int):=by rw[ik (by omega)];omega
  have e2:(k:Int).tdiv 10=(q:Int):=by rw[Int.tdiv_eq_ediv_of_nonneg (by omega)];omega
  have e3:(k:Int) / 10=(q:Int):=by omega
  have e4:IntKind.i64.wrap ((k:Int) / 10)=(q:Int):=by rw[cH];omega
  have e5:(k:Int) % 10=(d:Int):=by omega
  have hdn:decide ((d:Int)<0)=false:=by simp
  obtain⟨b,hb⟩:∃ b,b=UInt8.ofNat (48+d):=⟨_,rfl⟩;have hcut:=IS d Gy;rw[←hb] at hcut
  have hlen:l.length≤21:=by have h1:=congrArg List.length HV.out;rw[aM] at h1;have:=HL.out;omega
  have N9:=Fs b l
  by_cases h10:k<10
  ·obtain rfl:q=0:=by omega
   have HE:=ae (show(⟨(b::l).toArray⟩:ByteArray)=qt (n:Int) by rw[HN.out,HV.out,LP h10,hb,show d=k by omega];rfl)
   have HC:=ae N9;clear hq hd hb N9;go_wp2_with fail
   all_goals
    go_ret;exact⟨by rw[←HE.out,←HC.out];rfl,rfl⟩
  ·have hq1:¬((q:Int)=0):=by omega
   have HD:=ae (show Lib.decDigits k=Lib.decDigits q++[b] by rw[Sz h10,hb,hq,hd]);have HC:=ae N9;have hqk:q<k:=by omega
   clear hq hd hb N9;go_wp2_with fail
   go_round
   case rel=>exact⟨q,b::l,rfl,by rw[HC.out],by omega,ae (by rw[HV.out,HD.out];simp)⟩
   case measure=>simp[intOf];omega
end jw
end Go.Proofs.YthpdlidbaojlbaaGreatDoor
