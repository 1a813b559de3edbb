/- journal's writer: the walk of add. -/
import Derived.Test.YthpdlidbaojlbaaGreatDoorQ03
set_option linter.unusedVariables false
set_option linter.unusedSimpArgs false
set_option maxHeartbeats 4000000
open Go.ChangeShapes Go.WideShapes Go.RowKit
namespace Go.Proofs.YthpdlidbaojlbaaGreatDoor
namespace ks
theorem IC (h:Nat) (b:UInt8):rq h b<18446744073709551616:=dq _ (by decide)
theorem Ls (l:List UInt8):∀ h:Nat,h<18446744073709551616→l.foldl rq h<18446744073709551616:=by
 induction l with
 | nil=>exact fun h hh=>hh
 | cons x r ih=>exact fun h _=>ih _ (IC h x)
theorem BI (seed:Nat) (s:ByteArray):hash seed s<18446744073709551616:=by unfold hash sH hmul;refine ie (n:=64) (dq _ (by decide)) ?_;rw[gp];exact cE (gm _ _) (dq _ (by decide))
theorem wrap_mul (a b:Nat):IntKind.u64.wrap ((a:Int)*(b:Int))=((hmul a b:Nat):Int):=by rw[gY];unfold hmul;simp
theorem Dp (l:List UInt8) (h:Nat) (b:UInt8):(l++[b]).foldl rq h=rq (l.foldl rq h) b:=by rw[iK,List.foldl_cons,List.foldl_nil]
theorem Hg (s:ByteArray) (k:Nat) (h:k<s.size):s.data.toList.take (k+1)=s.data.toList.take k++[s[k]]:=by rw[fh (by simpa using h)];rfl
theorem xI (a b:Nat) (ha:a<18446744073709551616) (hb:b<18446744073709551616):bits .xor .u64 (a:Int) (b:Int)=((a ^^^ b:Nat):Int):=bits_xor_u64_nat a b ha hb
theorem ID (h:Nat) (c:UInt8) (hh:h<18446744073709551616):IntKind.u64.wrap (bits .xor .u64 (h:Int) (IntKind.u64.wrap (c.toNat:Int))*1099511628211)=((rq h c:Nat):Int):=by have hc:=c.toNat_lt;rw[gY (c.toNat:Int),Int.emod_eq_of_lt (by omega) (by omega)];rw[xI _ _ hh (by omega)];exact wrap_mul _ 1099511628211
theorem U1 (seed:Nat) (h:seed<18446744073709551616):bits .xor .u64 14695981039346656037 (seed:Int)=((14695981039346656037 ^^^ seed:Nat):Int):=xI 14695981039346656037 seed (by decide) h
theorem U0 (seed:Nat) (h:seed<18446744073709551616):14695981039346656037 ^^^ seed<18446744073709551616:=ie (n:=64) (by decide) h
theorem Lu (seed:Nat) (s:ByteArray) (w:World) (h1:seed<18446744073709551616) (hs:s.size≤maxLen):
  Calls Tryz.prog 207 #[.int .u64 seed,.string s] w fun e w'=>e=.returned (.int .u64 (hash seed s))∧w=w':=by
 unfold maxLen at hs;have h0:=U1 seed h1;obtain⟨b,hb⟩:∃ b,b=14695981039346656037 ^^^ seed:=⟨_,rfl⟩;rw[←hb] at h0;have hbl:=U0 seed h1;rw[←hb] at hbl;have HB:=ae hb;clear hb;go_enter Tryz.func207,Tryz.ntmps207
 go_wp2
 clear h0
 go_loop [5,11] (fun h i=>∃ k:Nat,k≤s.size∧i=.int .i64 k∧h=.int .u64 (((s.data.toList.take k).foldl rq b:Nat):Int)) (fun _ i=>s.size-(intOf i).toNat)
 case atStart=>exact⟨0,bz _,rfl,rfl⟩
 case round=>
  obtain⟨k,hk,rfl,rfl⟩:=hrel;have hlt:=Ls (s.data.toList.take k) b hbl;obtain⟨h,hh⟩:∃ h,h=(s.data.toList.take k).foldl rq b:=⟨_,rfl⟩;rw[←hh] at hlt ⊢;have HH:=ae hh;clear hh
  by_cases hlt2:k<s.size
  ·have hr:=ID h s[k] hlt;have HR:=ae hr;clear hr;go_wp2
   rw[HR.out];refine⟨⟨k+1,by omega,by go_num,?_⟩,by simp[intOf];omega⟩;rw[Hg s k hlt2,Dp,←HH.out]
  ·obtain rfl:k=s.size:=by omega
   have hx:bits .xor .u64 (h:Int) ((h:Int) / 4294967296)=((h ^^^ (h >>> 32):Nat):Int):=by have:=xI h (h / 4294967296) hlt (cE (gm _ _) hlt);rw[gp];exact this
   obtain⟨m,hm⟩:∃ m,m=hmul (h ^^^ (h >>> 32)) 11400714819323198485:=⟨_,rfl⟩;have hml:m<18446744073709551616:=by rw[hm];exact dq _ (by decide)
   have hw:IntKind.u64.wrap (bits .xor .u64 (h:Int) ((h:Int) / 4294967296)*11400714819323198485)=(m:Int):=by rw[hx,hm];exact wrap_mul _ 11400714819323198485
   have hx2:bits .xor .u64 (m:Int) ((m:Int) / 536870912)=((m ^^^ (m >>> 29):Nat):Int):=by have:=xI m (m / 536870912) hml (cE (gm _ _) hml);rw[gp];exact this
   have he:m ^^^ (m >>> 29)=hash seed s:=by unfold hash sH;rw[←HB.out,←aE (l:=s.data.toList) (i:=s.size) (by simp),←HH.out,←hm]
   rw[he] at hx2;have HX:=ae hx2;have HW:=ae hw;clear hx hm hw hx2 he;go_wp2
   rw[HW.out,HX.out];go_ret;exact⟨rfl,rfl⟩
def dp (b:Nat):Value:=.pointer (some ⟨b,0,none⟩)
theorem yp (h n:Nat) (hh:h<18446744073709551616) (h0:0<n) (hn:n≤4611686018427387904):bits .and .u64 (h:Int) ((n:Int)-1)=((h &&& (n-1):Nat):Int):=by rw[show((n:Int)-1)=((n-1:Nat):Int) by omega];exact bits_and_u64_nat _ _ hh (by omega)
end ks
namespace jw
open ks (af ae dp)
theorem x8 (l:List ByteArray) (i:Nat) (x:ByteArray) (h:l[i]?=some x):dz (l.take (i+1))=dz (l.take i)+x.size:=by obtain⟨hl,e⟩:=au.1 h;rw[fh hl,lE,e];simp[dz]
theorem Ct (l:List ByteArray) (i:Nat):dz (l.take i)≤dz l:=by
 conv=>rhs;rw[←eH i l,lE]
 omega
theorem Pg (ws:List ByteArray) (v:Value) (w:World) (h:eh b9 1 w v ws) (hb:dz ws≤1152921504606846976):
  Calls Tryz.prog 111 #[v] w fun r w'=>r=.returned (.int .i64 (dz ws:Nat))∧w=w':=by
 obtain⟨a,cap,rfl,hc1,hc2,-,hr⟩:=h.texts;have hn:ws.length≤9223372036854775807:=by unfold maxLen at hc2;omega
 have HR:=ae hr;have HB:=ae hb;generalize hnn:ws.length=n at *
 have HN:=ae hnn;clear h hr hb hnn hc1 hc2;go_enter Tryz.func111,Tryz.ntmps111
 go_wp2
 go_loopw [8,3,5] (fun i s _ wr=>wr=w∧∃ k:Nat,i=.int .i64 (k:Int)∧s=.int .i64 (dz (ws.take k):Nat)∧k≤n) (fun i _ _ _=>n-(intOf i).toNat)
 case atStart=>exact⟨rfl,0,rfl,rfl,by omega⟩
 case round=>
  obtain⟨rfl,k,rfl,rfl,hk⟩:=hrel
  by_cases hlt:k<n
  ·obtain⟨g,off,rfl,hc⟩:=HR.out (by omega);obtain⟨x,hx⟩:∃ x,ws[k]?=some x:=⟨_,ag (by rw[HN.out];exact hlt)⟩;have hcx:=hc k x hx;have hs:=x8 ws k x hx;have hle:=Ct ws (k+1);have hbb:=HB.out;obtain⟨s,hs1⟩:∃ s,s=dz (ws.take k):=⟨_,rfl⟩;obtain⟨z,hz1⟩:∃ z,z=dz (ws.take (k+1)):=⟨_,rfl⟩;rw[←hs1] at hs ⊢;rw[←hz1] at hs hle;have hsum:(s:Int)+(x.size:Int)=(z:Int):=by omega
   have hz:z≤1152921504606846976:=by omega
   have HZ:=ae hz1;have hlt':(k:Int)<(n:Int):=by omega
   clear hc hx hs hle hbb hs1 hz1;go_wp2
   go_roundw
   case rel=>exact⟨by trivial,k+1,by go_num,by rw[←HZ.out],by omega⟩
   case measure=>simp[intOf];omega
  ·obtain rfl:k=n:=by omega
   have ht:ws.take k=ws:=aE (by rw[HN.out];exact aq _);rw[ht];go_wp2
   go_ret;exact⟨rfl,rfl⟩
open ks (af ae hlt ah bC alloc_old aG aX aT dp)
structure EF where
 g:Nat
 cap:Nat
 ws:List ByteArray
def fK (e:EF):Value:=.slice (some ⟨e.g,0,none⟩) e.ws.length e.cap
def jX (e:EF):List Value:=[fK e]
theorem nJ:Enc jX 1:=⟨fun _=>rfl,fun x u hu=>by simp[jX] at hu;rw[hu];rfl,by decide⟩
structure dI (B:Nat) (w:World) (v:Value) (es:List EF):Prop where
 row:bF jX 1 32 B w v es
 each:∀ e∈es,bF b9 1 9 B w (fK e) e.ws
 nd:(es.map (fun e=>e.g)).Nodup
def xl (v:Value) (es:List EF):List Nat:=v.ownBlock.toList++es.map (fun e=>e.g)
theorem dI.nil (B:Nat) (w:World):dI B w (.slice none 0 0) []:=⟨bF.nil _ _ _ _ _,by simp,by simp⟩
theorem dI.lt {B:Nat} {w:World} {v:Value} {es:List EF} (h:dI B w v es):∀ b∈xl v es,B≤b∧b<w.heap.size:=by
 intro b hb
 rcases bj.1 hb with hb|hb
 ·exact h.row.lt b (by simpa using hb)
 ·obtain⟨e,he,rfl⟩:=aV.1 hb;exact(h.each e he).lt e.g rfl
theorem dI.keeps {B:Nat} {w w':World} {v:Value} {es:List EF} {F:List Nat} (h:dI B w v es) (hk:af F w w') (hF:∀ b∈xl v es,b∉F):dI B w' v es:=⟨h.row.keeps hk (fun b hb=>hF b (bh _ (by simp[hb]))),fun e he=>(h.each e he).keeps hk (fun b hb=>hF b (bA _ (by simp[fK,Value.ownBlock] at hb;exact aV.2 ⟨e,he,hb⟩))),h.nd⟩
theorem dI.aN {B:Nat} {w w':World} {v:Value} {es:List EF} (h:dI B w v es) (hk:af [] w w'):dI B w' v es:=h.keeps hk (by simp)
theorem dI.apart {B:Nat} {w:World} {v:Value} {es:List EF} (h:dI B w v es) {e:EF} (he:e∈es):v.ownBlock≠some e.g:=fun e2=>h.row.apart (h.each e he) (by decide) e.g e2 rfl
structure jl (B:Nat) (w:World) (wb:Nat) (v:Value) (es:List EF) (n:Nat):Prop where
 hd:w.heap[wb]?=some (.cells #[v,.int .i64 (n:Int)] 60 (0,0))
 ef:dI B w v es
 b:B≤wb
def eP (wb:Nat) (v:Value) (es:List EF):List Nat:=wb::xl v es
theorem jl.c0 {B:Nat} {w:World} {wb:Nat} {v:Value} {es:List EF} {n:Nat} (h:jl B w wb v es n):w.cell? ⟨wb,0,none⟩=some v:=by rw[ah h.hd];rfl
theorem jl.c1 {B:Nat} {w:World} {wb:Nat} {v:Value} {es:List EF} {n:Nat} (h:jl B w wb v es n):w.cell? ⟨wb,1,none⟩=some (.int .i64 (n:Int)):=by rw[ah h.hd];rfl
theorem jl.lt {B:Nat} {w:World} {wb:Nat} {v:Value} {es:List EF} {n:Nat} (h:jl B w wb v es n):∀ b∈eP wb v es,B≤b∧b<w.heap.size:=by
 intro b hb
 rcases bM.1 hb with rfl|hb
 ·exact⟨h.b,hlt h.hd⟩
 ·exact h.ef.lt b hb
theorem jl.off {B:Nat} {w:World} {wb:Nat} {v:Value} {es:List EF} {n:Nat} (h:jl B w wb v es n):wb∉xl v es:=by
 intro hm
 rcases bj.1 hm with hm|hm
 ·exact h.ef.row.bw h.hd (by decide) (by simpa using hm)
 ·obtain⟨e,he,e2⟩:=aV.1 hm;exact(h.ef.each e he).bw h.hd (by decide) (by rw[←e2];rfl)
theorem jl.aN {B:Nat} {w w':World} {wb:Nat} {v:Value} {es:List EF} {n:Nat} (h:jl B w wb v es n) (hk:af [] w w'):jl B w' wb v es n:=⟨hk.get h.hd (by simp),h.ef.aN hk,h.b⟩
theorem dI.push {B:Nat} {w w':World} {v:Value} {es:List EF} {e:EF} {g n cap:Nat} (h:dI B w v es) (he:bF b9 1 9 B w (fK e) e.ws) (hne:e.g∉es.map (fun e=>e.g))
  (hp:eW jX 1 32 B w w' v es e g n cap):dI B w' (.slice (some ⟨g,0,none⟩) (n+1) cap) (es++[e]):=by
 have hk:∀ x:EF,(x∈es∨x=e)→bF b9 1 9 B w (fK x) x.ws→bF b9 1 9 B w' (fK x) x.ws:=by
  intro x hx ho;refine ho.keeps hp.bY (fun b hb hm=>?_);have hv:v.ownBlock=some b:=by simpa using hm
  exact h.row.apart ho (by decide) b hv hb
 refine⟨hp.own,fun x hx=>?_,?_⟩
 ·rcases bj.1 hx with hx|hx
  ·exact hk x (.inl hx) (h.each x hx)
  ·simp at hx;subst hx;exact hk x (.inr rfl) he
 ·rw[aZ,bQ];refine⟨h.nd,by simp,fun a ha b hb e2=>?_⟩;simp at hb;exact hne (by rw[←hb,←e2];exact ha)
theorem vz:(Tryz.prog.info? 32).map (fun i=>(i.zero,i.size,i.bytes))=some (some (.slice none 0 0),1,24):=by kernel_rfl
theorem qc:(Tryz.prog.info? 9).map (fun i=>(i.zero,i.size,i.bytes))=some (some (.string ByteArray.empty),1,16):=by kernel_rfl
theorem jl.push {B:Nat} {w w':World} {wb:Nat} {v:Value} {es:List EF} {n m:Nat} {e:EF} {g cap:Nat} (h:jl B w wb v es n) (he:bF b9 1 9 B w (fK e) e.ws) (hne:e.g∉es.map (fun e=>e.g))
  (hp:eW jX 1 32 B w w' v es e g m cap):
  jl B ((w'.setCell ⟨wb,0,none⟩ (.slice (some ⟨g,0,none⟩) (m+1) cap)).setCell ⟨wb,1,none⟩ (.int .i64 0)) wb (.slice (some ⟨g,0,none⟩) (m+1) cap) (es++[e]) 0∧
   af (eP wb v es) w ((w'.setCell ⟨wb,0,none⟩ (.slice (some ⟨g,0,none⟩) (m+1) cap)).setCell ⟨wb,1,none⟩ (.int .i64 0)):=by
 have hwv:v.ownBlock≠some wb:=fun e2=>h.off (bh _ (by simp[e2]))
 have hhd:=hp.bY.get h.hd (by simp;exact hwv);have hef:=h.ef.push he hne hp;have hwb:=hlt h.hd
 have hwg:wb≠g:=by
  rintro rfl
  rcases hp.at_ with h1|h1
  ·exact hwv h1
  ·omega
 have hoff:∀ b∈xl (.slice (some ⟨g,0,none⟩) (m+1) cap) (es++[e]),b≠wb:=by
  intro b hb e2;subst e2
  rcases bj.1 hb with hb|hb
  ·simp[Value.ownBlock] at hb;exact hwg hb
  ·rw[aZ] at hb
   rcases bj.1 hb with hb|hb
   ·exact h.off (bA _ hb)
   ·simp at hb;exact he.bw h.hd (by decide) (by rw[hb];rfl)
 refine⟨⟨?_,(hef.keeps (F:=[wb]) (((af.refl _ w').setCell (p:=⟨wb,0,none⟩) (.inl (by simp)) _).setCell (p:=⟨wb,1,none⟩) (.inl (by simp)) _) (fun b hb hm=>hoff b hb (by simpa using hm))),h.b⟩,?_⟩
 ·have h1:=aX hhd 0 (.slice (some ⟨g,0,none⟩) (m+1) cap);have h2:=aX h1 1 (.int .i64 0);rw[h2];rfl
 ·exact((hp.bY.mono (fun b hb=>bO _ (bh _ hb))).setCell (p:=⟨wb,0,none⟩) (.inl (by simp[eP])) _).setCell (p:=⟨wb,1,none⟩) (.inl (by simp[eP])) _
set_option maxRecDepth 8000 in
theorem Mc (B wb:Nat) (v:Value) (es:List EF) (n:Nat) (e:EF) (w:World) (h:jl B w wb v es n) (he:bF b9 1 9 B w (fK e) e.ws) (hne:e.g∉es.map (fun e=>e.g)) (hl:es.length≤1073741824):
  Calls Tryz.prog 21 #[dp wb,fK e] w fun r w'=>r=.returned (.tuple #[])∧∃ v',jl B w' wb v' (es++[e]) 0∧af (eP wb v es) w w'∧(∀ c,v'.ownBlock=some c→v.ownBlock=some c∨w.heap.size≤c):=by
 obtain⟨i9,hi9,iV,iA,im⟩:=cF vz;have c0:=h.c0;have hwb:=hlt h.hd;have hoff:v.ownBlock≠some wb:=fun e2=>h.off (bh _ (by simp[e2]))
 have hB:B≤w.heap.size:=by have:=h.b;omega
 have HFZ:Hid (∀ w2,af v.ownBlock.toList w w2→w2.frozen? ⟨wb,0,none⟩=false∧w2.frozen? ⟨wb,1,none⟩=false∧(∃ u,w2.cell? ⟨wb,0,none⟩=some u)∧∃ u,w2.cell? ⟨wb,1,none⟩=some u):=ae (fun w2 hk=>by
  have:=hk.get h.hd (by simp;exact hoff)
  exact⟨bC this 0,bC this 1,⟨_,by rw[ah this];rfl⟩,_,by rw[ah this];rfl⟩)
 have H:=ae h;have HE:=ae he;have HN:=ae hne;have HL:=ae hl;have HO:=ae hoff;have Jb:=ae hB;clear h he hne hl hoff hB;obtain⟨ev,hev⟩:∃ ev,ev=fK e:=⟨_,rfl⟩;have TG:=ae hev;rw[←hev];rw[fK] at hev;subst hev;unfold dp;go_enter Tryz.func21,Tryz.ntmps21
 go_wp2_with (at_builtin;refine gV rfl _ _ 25 rfl jX 1 32 B i9 (.slice none 0 0) 24 Tryz.underlying25 hi9 iV iA im rfl nJ v es.length es e rfl H.out.ef.row rfl 32 rfl 1 rfl (by have:=HL.out;unfold maxLen;omega) (by have:=HL.out;omega) Jb.out ?_;intro g cap w2 hp;obtain⟨fz,fz1,⟨u,cc⟩,u1,cc1⟩:=HFZ.out w2 hp.bY;have HP:=ae hp;clear hp)
 go_end0
 obtain⟨hv,hk⟩:=H.out.push HE.out HN.out HP.out
 exact⟨rfl,_,hv,hk,fun c hc=>by
  simp[Value.ownBlock] at hc;subst hc
  exact HP.out.at_⟩
theorem dI.more {B:Nat} {w w':World} {v:Value} {pre:List EF} {e:EF} {g cap:Nat} {ws:List ByteArray} (h:dI B w v (pre++[e])) {rg rc n:Nat} (hv:v=.slice (some ⟨rg,0,none⟩) n rc)
  (hs:jy b9 1 9 B w w' (fK e) (fK ⟨g,cap,e.ws++ws⟩) e.ws ws):
  dI B (w'.setCell ⟨rg,pre.length,none⟩ (fK ⟨g,cap,e.ws++ws⟩)) v (pre++[⟨g,cap,e.ws++ws⟩]):=by
 subst hv;have hel:=h.each e (by simp);have hrow:bF jX 1 32 B w' (.slice (some ⟨rg,0,none⟩) n rc) (pre++[e]):=h.row.keeps hs.bY (fun b hb hm=>h.row.apart hel (by decide) b hb (by simpa using hm))
 have hst:bF jX 1 32 B (w'.setCell ⟨rg,pre.length,none⟩ (fK ⟨g,cap,e.ws++ws⟩)) (.slice (some ⟨rg,0,none⟩) n rc) (pre++[⟨g,cap,e.ws++ws⟩]):=by
  have h1:w'.ownsRow B 32 1 (.slice (some ⟨rg,0,none⟩) n rc) (pre++[e]).length ((pre++[e]).flatMap jX):=hrow
  have hn:n=(pre++[e]).length:=by
   obtain⟨a,c,e1,_⟩:=hrow.form
   injection e1
  subst hn;have h2:=(h1.stored pre.length (fK ⟨g,cap,e.ws++ws⟩)).1;unfold bF
  have e2:((pre++[e]).flatMap jX).set pre.length (fK ⟨g,cap,e.ws++ws⟩)=(pre++[(⟨g,cap,e.ws++ws⟩:EF)]).flatMap jX:=by
   have e3:∀ l:List EF,l.flatMap jX=l.map fK:=fun l=>by
    induction l with
    | nil=>rfl
    | cons x l ih=>rw[di,ih];rfl
   rw[e3,e3,aZ,aZ,List.set_append_right _ _ (by simp)];simp
  rw[e2] at h2;simpa using h2
 have hrg:∀ x∈pre++[e],x.g≠rg:=fun x hx e2=>h.apart hx (by rw[e2];rfl)
 have abO:rg<w.heap.size:=(h.row.lt rg rfl).2
 have hg:g≠rg:=by
  rintro rfl
  rcases hs.at_ g rfl with h1|h1
  ·simp[fK,Value.ownBlock] at h1;exact hrg e (by simp) h1
  ·omega
 have hold:∀ x∈pre,x.g≠e.g:=by intro x hx e2;have:=h.nd;rw[aZ,bQ] at this;exact this.2.2 x.g (aV.2 ⟨x,hx,rfl⟩) e.g (by simp) e2
 have hgp:∀ x∈pre,x.g≠g:=by
  intro x hx e2
  rcases hs.at_ g rfl with h1|h1
  ·simp[fK,Value.ownBlock] at h1;exact hold x hx (by rw[e2,h1])
  ·have:=(h.each x (by simp[hx])).lt x.g rfl;omega
 have hset:∀ (x:EF),x.g≠rg→bF b9 1 9 B w' (fK x) x.ws→bF b9 1 9 B (w'.setCell ⟨rg,pre.length,none⟩ (fK ⟨g,cap,e.ws++ws⟩)) (fK x) x.ws:=by intro x hx ho;refine ho.bY (fun b hb=>aT _ (fun e2=>hx ?_));simp[fK,Value.ownBlock] at hb;rw[hb];exact e2
 refine⟨hst,fun x hx=>?_,?_⟩
 ·rcases bj.1 hx with hx|hx
  ·refine hset x (hrg x (by simp[hx])) ((h.each x (by simp[hx])).keeps hs.bY (fun b hb hm=>?_));simp[fK,Value.ownBlock] at hb hm;exact hold x hx (by rw[hb,hm])
  ·simp at hx;subst hx;exact hset _ hg hs.own
 ·have:=h.nd;rw[aZ,bQ] at this ⊢;refine⟨this.1,by simp,fun a ha b hb e2=>?_⟩;simp at hb;obtain⟨x,hx,rfl⟩:=aV.1 ha;exact hgp x hx (by rw[e2,hb])
theorem jl.more {B:Nat} {w w':World} {wb:Nat} {v:Value} {pre:List EF} {e:EF} {n m:Nat} {g cap:Nat} {ws:List ByteArray} (h:jl B w wb v (pre++[e]) n) {rg rc:Nat} {nn:Nat} (hv:v=.slice (some ⟨rg,0,none⟩) nn rc)
  (hs:jy b9 1 9 B w w' (fK e) (fK ⟨g,cap,e.ws++ws⟩) e.ws ws):
  jl B ((w'.setCell ⟨rg,pre.length,none⟩ (fK ⟨g,cap,e.ws++ws⟩)).setCell ⟨wb,1,none⟩ (.int .i64 (m:Int))) wb v (pre++[⟨g,cap,e.ws++ws⟩]) m∧
   gX w (eP wb v (pre++[e])) ((w'.setCell ⟨rg,pre.length,none⟩ (fK ⟨g,cap,e.ws++ws⟩)).setCell ⟨wb,1,none⟩ (.int .i64 (m:Int))) (eP wb v (pre++[⟨g,cap,e.ws++ws⟩])):=by
 have hef:=h.ef.more hv hs;have hwv:v.ownBlock≠some wb:=fun e2=>h.off (bh _ (by simp[e2]))
 have hwr:wb≠rg:=by rintro rfl;exact hwv (by rw[hv];rfl)
 have hel:=h.ef.each e (by simp);have hwe:(fK e).ownBlock≠some wb:=hel.bw h.hd (by decide);have hwb:=hlt h.hd;have hhd:=hs.bY.get h.hd (by simp;exact hwe);have Yh:(w'.setCell ⟨rg,pre.length,none⟩ (fK ⟨g,cap,e.ws++ws⟩)).heap[wb]?=_:=(aT _ hwr).trans hhd
 have hoff:wb∉xl v (pre++[⟨g,cap,e.ws++ws⟩]):=by
  intro hm
  rcases bj.1 hm with hm|hm
  ·exact hwv (by simpa using hm)
  ·rw[aZ] at hm
   rcases bj.1 hm with hm|hm
   ·exact h.off (bA _ (by rw[aZ];exact bh _ hm))
   ·simp at hm
    rcases hs.at_ g rfl with h1|h1
    ·exact hwe (by rw[hm];exact h1)
    ·omega
 refine⟨⟨?_,hef.keeps (F:=[wb]) ((af.refl _ _).setCell (p:=⟨wb,1,none⟩) (.inl (by simp)) _) (fun b hb hm=>hoff (by simp at hm;rw[←hm];exact hb)),h.b⟩,⟨?_,?_⟩⟩
 ·rw[aX Yh];rfl
 ·have k1:af (eP wb v (pre++[e])) w w':=hs.bY.mono (fun b hb=>by
   simp[fK,Value.ownBlock] at hb;subst hb
   exact bO _ (bA _ (by simp)))
  exact(k1.setCell (p:=⟨rg,pre.length,none⟩) (.inl (bO _ (bh _ (by rw[hv];simp[Value.ownBlock])))) _).setCell (p:=⟨wb,1,none⟩) (.inl (by simp[eP])) _
 ·intro c hc
  rcases bM.1 hc with rfl|hc
  ·exact .inl (by simp[eP])
  ·rcases bj.1 hc with hc|hc
   ·exact .inl (bO _ (bh _ hc))
   ·rw[aZ] at hc
    rcases bj.1 hc with hc|hc
    ·exact .inl (bO _ (bA _ (by rw[aZ];exact bh _ hc)))
    ·have hcg:c=g:=by simpa using hc
     rcases hs.at_ g rfl with h1|h1
     ·left
      simp[fK,Value.ownBlock] at h1;exact bO _ (bA _ (by rw[hcg,←h1];simp))
     ·exact .inr (by rw[hcg];exact h1)
def pz (n:Nat) (cur g:List ByteArray):Prop:=n=64∨4194304<dz cur+dz g
def JB (n:Nat) (cur g:List ByteArray):Bool:=decide (n=64)|| decide (4194304<dz cur+dz g)
theorem Cu {n:Nat} {cur g:List ByteArray}:JB n cur g=true↔pz n cur g:=by unfold JB pz;simp
inductive FJ (name key:ByteArray) (pre:List Words) (cur:Words) (n:Nat) (g:Words):List Words→Words→Nat→Prop
 | new (h:pz n cur g):FJ name key pre cur n g (pre++[cur]) ([name,key]++g) 1
 | on (h:¬pz n cur g):FJ name key pre cur n g pre (cur++g) (n+1)
theorem FJ.writes {name key:ByteArray} {pre:List Words} {cur:Words} {n:Nat} {g:Words} {pre':List Words} {cur':Words} {n':Nat} (h:FJ name key pre cur n g pre' cur' n') (gs:List Words):
  writes name key pre cur n (g::gs)=writes name key pre' cur' n' gs:=by
 cases h with
 | new h=>rw[writes.eq_def];exact aQ h
 | on h=>rw[writes.eq_def];exact aJ h
structure Tk (B:Nat) (w wx:World) (wb:Nat) (v:Value) (pre:List EF) (e:EF) (n:Nat) (name key:ByteArray) (g:List ByteArray) (v':Value) (pre':List EF) (e':EF) (n':Nat):Prop where
 i:jl B wx wb v' (pre'++[e']) n'
 nx:gX w (eP wb v (pre++[e])) wx (eP wb v' (pre'++[e']))
 r:(pz n e.ws g∧pre'=pre++[e]∧e'.ws=[name,key]∧n'=0)∨(¬pz n e.ws g∧pre'=pre∧e'=e∧n'=n)
theorem Tk.res {B:Nat} {w wx:World} {wb:Nat} {v:Value} {pre:List EF} {e:EF} {n:Nat} {name key:ByteArray} {g:List ByteArray} {v':Value} {pre':List EF} {e':EF} {n':Nat} (h:Tk B w wx wb v pre e n name key g v' pre' e' n'):
  FJ name key (pre.map (fun x=>x.ws)) e.ws n g (pre'.map (fun x=>x.ws)) (e'.ws++g) (n'+1):=by
 rcases h.r with⟨h1,rfl,h3,rfl⟩|⟨h1,rfl,rfl,rfl⟩
 ·rw[h3,aZ];exact .new h1
 ·exact .on h1
theorem jl.word {B:Nat} {w:World} {wb:Nat} {v:Value} {es:List EF} {n:Nat} (h:jl B w wb v es n) {x:EF} (hx:x∈es) {i:Nat} {s:ByteArray} (hi:x.ws[i]?=some s):w.cell? ⟨x.g,i,none⟩=some (.string s):=by
 have:=bF.cell (enc:=b9) (fun _=>rfl) (h.ef.each x hx) hi (j:=0) (u:=.string s) rfl
 rwa [bB,Nat.add_zero] at this
theorem jl.last {B:Nat} {w:World} {wb:Nat} {v:Value} {pre:List EF} {e:EF} {n:Nat} (h:jl B w wb v (pre++[e]) n):
  ∃ rg rc,v=.slice (some ⟨rg,0,none⟩) (pre.length+1) rc∧w.cell? ⟨rg,pre.length,none⟩=some (fK e)∧w.frozen? ⟨rg,pre.length,none⟩=false∧∀ i x,e.ws[i]?=some x→w.cell? ⟨e.g,i,none⟩=some (.string x):=by
 obtain⟨a,rc,hv,_,_,_,ha⟩:=h.ef.row.form;obtain⟨rg,rfl⟩:=ha (by simp);rw[aM,List.length_singleton] at hv;have hrow:=h.ef.row;rw[hv] at hrow;refine⟨rg,rc,hv,?_,?_,fun i x hx=>?_⟩
 ·have hpe:(pre++[e])[pre.length]?=some e:=by rw[bN (aq _),dZ];rfl
  have:=bF.cell (enc:=jX) (fun _=>rfl) hrow hpe (j:=0) (u:=fK e) rfl
  rwa [bB,Nat.add_zero] at this
 ·exact hrow.frozen _
 ·have:=bF.cell (enc:=b9) (fun _=>rfl) (h.ef.each e (by simp)) hx (j:=0) (u:=.string x) rfl
  rwa [bB,Nat.add_zero] at this
set_option maxRecDepth 8000 in
theorem Vl (B wb:Nat) (v:Value) (pre:List EF) (e:EF) (n:Nat) (name key:ByteArray) (rest:List ByteArray) (u:Value) (g:List ByteArray) (w:World) (h:jl B w wb v (pre++[e]) n) (he:e.ws=name::key::rest)
  (hu:eh b9 1 w u g) (ho:Off u g.length (eP wb v (pre++[e]))) (hn:n≤64) (hp:pre.length≤268435456) (hw1:dz e.ws≤1073741824) (hw2:dz g≤1073741824) (hl1:e.ws.length≤1073741824) (hl2:g.length≤1073741824):
  Calls Tryz.prog 64 #[dp wb,u] w fun r w'=>r=.returned (.tuple #[])∧∃ v' pre' e' n',jl B w' wb v' (pre'++[e']) n'∧gX w (eP wb v (pre++[e])) w' (eP wb v' (pre'++[e']))∧
   FJ name key (pre.map (fun x=>x.ws)) e.ws n g (pre'.map (fun x=>x.ws)) e'.ws n':=by
 obtain⟨i9,hi9,iV,iA,im⟩:=cF qc;obtain⟨rg,rc,hv,cl,_,cw⟩:=h.last;have c0:=h.c0;have c1:=h.c1;have d0:=cw 0 name (by rw[he];rfl);have d1:=cw 1 key (by rw[he];rfl);have D9:=ae (fun W (hk:af [] w W)=>Pg e.ws (fK e) W (((h.ef.each e (by simp)).aN hk).row (fun _=>rfl)) (by omega));have HS2:=ae (fun W (hk:af [] w W)=>Pg g u W (hu.aN hk) (by omega));have H:=ae h;have HU:=ae hu;have HO:=ae ho;have HE:=ae he;have HP:=ae hp;have TF:=ae hl1;have HL2:=ae hl2;have HW1:=ae hw1;have HW2:=ae hw2;have hel:2≤e.ws.length:=by rw[he];simp
 obtain⟨ua,TO,huv,_⟩:=HU.out;have HV:=ae hv;rw[hv] at c0;obtain⟨s1,hs1⟩:∃ s,s=dz e.ws:=⟨_,rfl⟩;obtain⟨s2,hs2⟩:∃ s,s=dz g:=⟨_,rfl⟩;have Zp:=ae hs1;have Zo:=ae hs2;rw[←hs1] at D9 hw1;rw[←hs2] at HS2 hw2;unfold fK at cl D9;obtain⟨m,hm⟩:∃ m,m=e.ws.length:=⟨_,rfl⟩;rw[←hm] at cl D9 hel;have HM:=ae hm;have HUV:=ae huv;rw[huv] at HS2 ⊢;obtain⟨un,hun⟩:∃ un,un=g.length:=⟨_,rfl⟩;rw[←hun] at HS2 ⊢;have HUN:=ae hun;obtain⟨p,hpp⟩:∃ p,p=pre.length:=⟨_,rfl⟩;rw[←hpp] at c0 cl hp;have HPP:=ae hpp;clear h hv cw he hu ho hl1 hl2 hs1 hs2 hm huv hun hpp;unfold dp;go_enter Tryz.func64,Tryz.ntmps64
 go_wp2_with fail
 go_quiet (fail)
 obtain⟨tb,htb⟩:∃ tb,tb=JB n e.ws g:=⟨_,rfl⟩;have qf:=ae htb;clear htb
 go_upto_region 1 with(fail)
 go_cut [29] (fun t wx=>t=.bool tb∧∃ q,wx=w.drewN q)
 case first=>as_aux_lemma=>
  by_cases RP:n=64
  ·have HB:=ae (show tb=true by rw[qf.out];unfold JB;simp[RP]);subst RP;go_wp2_with fail
   go_meet;exact⟨by rw[HB.out],_,rfl⟩
  ·have hne:((n:Int) == 64)=false:=by simp;omega
   have HB:=ae (show tb=decide (4194304<s1+s2) by rw[qf.out,Zp.out,Zo.out];unfold JB;simp[RP]);go_wp2_with fail
   refine(D9.out _ ((af.refl _ _).drewN _)).mono ?_;rintro r w1 ⟨rfl,rfl⟩;go_wp2_with fail
   refine(HS2.out _ ((af.refl _ _).drewN _)).mono ?_;rintro r w1 ⟨rfl,rfl⟩
   by_cases hbig:4194304<s1+s2
   ·have hbi:(4194304:Int)<(s1:Int)+(s2:Int):=by omega
    have HB2:=ae (show tb=true by rw[HB.out];simpa using hbig);go_wp2_with fail
    go_meet;exact⟨by rw[HB2.out],_,rfl⟩
   ·have hbi:decide ((4194304:Int)<(s1:Int)+(s2:Int))=false:=by simp;omega
    have HB2:=ae (show tb=false by rw[HB.out];simpa using hbig);go_wp2_with fail
    go_meet;exact⟨by rw[HB2.out],_,rfl⟩
 case rest=>
  obtain⟨rfl,q,rfl⟩:=hcut;have K0:Hid (af [] w (w.drewN q)):=ae ((af.refl _ _).drewN q);have e0:(w.drewN q).cell? ⟨wb,0,none⟩=some (.slice (some ⟨rg,0,none⟩) (p+1) rc):=c0;have e1:(w.drewN q).cell? ⟨wb,1,none⟩=some (.int .i64 (n:Int)):=c1;have el:(w.drewN q).cell? ⟨rg,p,none⟩=some (.slice (some ⟨e.g,0,none⟩) m e.cap):=cl;have YR:(w.drewN q).cell? ⟨e.g,0,none⟩=some (.string name):=d0;have YQ:(w.drewN q).cell? ⟨e.g,1,none⟩=some (.string key):=d1
  have hn0:∀ W,af [] w W→∀ W',W'.heap.size=W.heap.size+1→af [] W W'→W'.heap[W.heap.size]?=some (.cells #[.string name,.string key] 9 (0,0))→bF b9 1 9 B W' (fK ⟨W.heap.size,2,[name,key]⟩) [name,key]∧W.heap.size∉(pre++[e]).map (fun x=>x.g):=by intro W hk W' hz hk2 hb;have hB:=H.out.b;have hB2:=hlt H.out.hd;have hB3:=hk.size;refine⟨⟨rfl,.inr ⟨W.heap.size,2,#[.string name,.string key],rfl,by omega,hb,aq _,by simp[maxLen],rfl,rfl⟩⟩,fun hm=>?_⟩;have:=(H.out.lt _ (bO _ (bA _ hm))).2;omega
  have HN0:=ae hn0;clear c0 c1 cl d0 d1 D9 HS2 hn0;generalize w.drewN q=W at *
  go_upto_if 29 with(fail)
  go_cut [4] (fun t wx=>∃ v' pre' e' n',t=fK e'∧Hid (Tk B w wx wb v pre e n name key g v' pre' e' n'))
  case first=>as_aux_lemma=>
   cases tb with
   | false=>
    have HT:=ae (show ¬pz n e.ws g by rw[←Cu,←qf.out];simp);go_wp2_with fail
    go_meet;exact⟨v,pre,e,n,by rw[HM.out];rfl,ae ⟨H.out.aN K0.out,gX.of0 _ K0.out,.inr ⟨HT.out,rfl,rfl,rfl⟩⟩⟩
   | true=>
    have HT:=ae (show pz n e.ws g by rw[←Cu,←qf.out]);have i1:(1:Int)<(m:Int):=by omega
    have i0:0<m:=by omega
    have i2:¬m=0:=by omega
    go_wp2_with fail
    have ZY:Hid (∀ W',W'.heap.size=W.heap.size+1→af [] W W'→W'.heap[W.heap.size]?=some (.cells #[.string name,.string key] 9 (0,0))→Calls Tryz.prog 21 #[.pointer (some ⟨wb,0,none⟩),.slice (some ⟨W.heap.size,0,none⟩) 2 2] W' fun r w2=>r=.returned (.tuple #[])∧∃ v',jl B w2 wb v' (pre++[e]++[⟨W.heap.size,2,[name,key]⟩]) 0∧gX W (eP wb v (pre++[e])) w2 (eP wb v' (pre++[e]++[⟨W.heap.size,2,[name,key]⟩]))):=ae (by
     intro W' hz hk2 hb;obtain⟨o1,o2⟩:=HN0.out W K0.out W' hz hk2 hb;refine(Mc B wb v (pre++[e]) n ⟨W.heap.size,2,[name,key]⟩ W' (H.out.aN (K0.out.trans hk2)) o1 o2 (by have:=HP.out;simp;omega)).mono ?_;rintro r w2 ⟨rfl,v',i1,k1,b1⟩;refine⟨rfl,v',i1,(hk2.mono (by simp)).trans k1,fun c hc=>?_⟩
     rcases bM.1 hc with rfl|hc
     ·exact .inl (by simp[eP])
     ·rcases bj.1 hc with hc|hc
      ·rcases b1 c (by simpa using hc) with h1|h1
       ·exact .inl (bO _ (bh _ (by simp[h1])))
       ·right;omega
      ·rw[aZ] at hc
       rcases bj.1 hc with hc|hc
       ·exact .inl (bO _ (bA _ hc))
       ·right;simp at hc;omega)
    have HAL:Hid (∀ t:TypeId,(W.alloc (.cells #[.string name,.string key] t)).drew.heap[W.heap.size]?=some (.cells #[.string name,.string key] t (0,0))):=ae (fun t=>aG W _)
    go_region_held3 (fun w'=>w'.cell? ⟨e.g,0,none⟩=some (.string name)∧w'.cell? ⟨e.g,1,none⟩=some (.string key)) (first|exact⟨YR,YQ⟩|(go_keep;done)|exact⟨g0,g1⟩) ((go_at_call 21;refine(ZY.out _ (by simp[World.drew]) (((af.refl _ W).alloc _).drew) (HAL.out _)).mono ?_;rintro r w2 ⟨rfl,v2,j1,j2⟩;have g0:=j1.word (x:=e) (by simp) (i:=0) (s:=name) (by rw[HE.out];rfl);have g1:=j1.word (x:=e) (by simp) (i:=1) (s:=key) (by rw[HE.out];rfl);have J1:=ae j1;have J2:=ae j2;clear j1 j2))
    obtain⟨V1,rc2,hv2,f1,_,_⟩:=J1.out.last;have f0:=J1.out.c0;rw[hv2] at f0;obtain⟨p2,hp2⟩:∃ p2,p2=(pre++[e]).length:=⟨_,rfl⟩;have XU:p2≤268435457:=by have:=HP.out;rw[hp2];simp;omega
    rw[←hp2] at f0 f1;unfold fK at f1;clear g0 g1 YR YQ e0 e1 el hp2 hv2;go_wp2_with fail
    go_quiet (fail)
    go_wp2_with fail
    go_meet;exact⟨v2,pre++[e],⟨W.heap.size,2,[name,key]⟩,0,rfl,ae ⟨J1.out.aN ((af.refl _ _).drewN _),((gX.of0 _ K0.out).trans J2.out).aN ((af.refl _ _).drewN _),.inl ⟨HT.out,rfl,rfl,rfl⟩⟩⟩
  case rest=>
   obtain⟨v2,nW,e2,n2,rfl,HC⟩:=hcut;clear e0 e1 el YR YQ;obtain⟨V1,rc2,hv2,f1,fz,_⟩:=HC.out.i.last;have f0:=HC.out.i.c0;rw[hv2] at f0;obtain⟨p2,hp2⟩:∃ p2,p2=nW.length:=⟨_,rfl⟩
   have XU:p2≤268435457:=by
    have:=HP.out
    rcases HC.out.r with⟨_,h1,_⟩|⟨_,h1,_⟩
    ·rw[hp2,h1];simp;omega
    ·rw[hp2,h1];omega
   have hl3:e2.ws.length≤1073741824:=by
    rcases HC.out.r with⟨_,_,h1,_⟩|⟨_,_,h1,_⟩
    ·rw[h1];simp
    ·rw[h1];exact TF.out
   have ZU:=ae (show 0<e2.ws.length from by
    rcases HC.out.r with⟨_,_,h1,_⟩|⟨_,_,h1,_⟩
    ·rw[h1];simp
    ·rw[h1,HE.out];simp)
   have hn2:n2≤64:=by rcases HC.out.r with⟨_,_,_,h1⟩|⟨_,_,_,h1⟩<;>omega
   rw[←hp2] at f0 f1 fz;have jK:=ae hp2;have sb:=ae hv2;have HL3:=ae hl3;have g1:=HC.out.i.c1;have gz:wc.frozen? ⟨wb,1,none⟩=false:=bC HC.out.i.hd 1;obtain⟨Tu,nZ⟩:∃ Tu,Tu=fK e2:=⟨_,rfl⟩;have ZT:=ae nZ;have HOWN:=ae (show bF b9 1 9 B wc Tu e2.ws from by rw[nZ];exact HC.out.i.ef.each e2 (by simp))
   have fN:=ae (show eh b9 1 wc (.slice ua un TO) g from by
    rw[HUN.out,←HUV.out]
    exact HU.out.keeps HC.out.nx.k HO.out)
   have Jb:=ae (show B≤wc.heap.size from by have:=HC.out.i.b;have:=hlt HC.out.i.hd;omega);have MH:=ae (show e2.ws.length+g.length≤maxLen from by have:=HL2.out;unfold maxLen;omega);have FI:=ae (show(e2.ws.length+g.length)*16≤140737488355328 from by have:=HL2.out;omega)
   have Tc:=ae (show wb∉Tu.ownBlock.toList from by
    rw[nZ];have:=(HC.out.i.ef.each e2 (by simp)).bw HC.out.i.hd (by decide)
    simpa using this)
   have VH:=ae (show V1∉Tu.ownBlock.toList from by
    rw[nZ];have:=HC.out.i.ef.row.apart (HC.out.i.ef.each e2 (by simp)) (by decide) V1 (by rw[hv2];rfl)
    simpa using this)
   have hwr:IntKind.i64.wrap (p2:Int)=(p2:Int):=by rw[cH];omega
   have hlt3:(p2:Int)<(p2:Int)+1:=by omega
   rw[←nZ] at f1 ⊢;clear nZ hv2 hp2 hl3;go_wp2_with fail
   go_region_law (first|(refine wV rfl _ _ 32 rfl b9 1 9 B i9 (.string ByteArray.empty) 16 Tryz.underlying32 hi9 iV iA im rfl dR Tu e2.ws g (.slice ua un TO) (by simp[Act.eval,Act.put]) HOWN.out (by simp[Act.eval,Act.put]) fN.out MH.out FI.out Jb.out ?_;intro v3 w3 hsp;have q0:=eM hsp.bY f0 Tc.out;have q1:=eM hsp.bY g1 Tc.out;have q2:=eM hsp.bY f1 VH.out;have q3:=(rB hsp.bY g1 Tc.out).trans gz;have q4:=(rB hsp.bY f1 VH.out).trans fz;obtain⟨a3,c3,hv3,_,_,_,GA⟩:=hsp.own.form;obtain⟨g3,rfl⟩:=GA (by have:=ZU.out;simp;omega);obtain⟨n3,Ll⟩:∃ n3,n3=(e2.ws++g).length:=⟨_,rfl⟩;rw[←Ll] at hv3;subst hv3;have TE:=ae Ll;have Vv:=ae hsp;clear hsp Ll GA))
   all_goals
    have abI:wb≠V1:=fun e3=>by have:=HC.out.i.off;exact this (bh _ (by rw[sb.out,e3];simp[Value.ownBlock]))
    have abU:(n2:Int)+1≤65:=by omega
    clear f0 f1 g1 gz;go_wp2_with fail
    go_end0
    have hsp:jy b9 1 9 B wc w3 (fK e2) (fK ⟨g3,c3,e2.ws++g⟩) e2.ws g:=by have h1:=Vv.out;rw[ZT.out,TE.out] at h1;exact⟨h1.own,((af.refl _ wc).drew).trans h1.bY,h1.at_⟩
    obtain⟨r1,r2⟩:=HC.out.i.more (m:=n2+1) sb.out hsp;rw[←jK.out] at r1 r2;have ee:fK ⟨g3,c3,e2.ws++g⟩=.slice (some ⟨g3,0,none⟩) n3 c3:=by rw[TE.out];rfl
    rw[ee] at r1 r2;exact⟨rfl,v2,nW,⟨g3,c3,e2.ws++g⟩,n2+1,r1,HC.out.nx.trans r2,HC.out.res⟩
end jw
end Go.Proofs.YthpdlidbaojlbaaGreatDoor
